/- What the proof of the law Extensions stands on, part 4: words, each Go function's Lean function, and that the Go code comes to its answers; no condition. (Packed by wip/myprint/pack.py out of what the kit's printer wrote, its words among it, partly by our patches of it, and out of texts of this session.) -/
import Derived.Test.YthmcpmnhdbeahaaGreatKExtensions3
set_option linter.unusedVariables false
set_option linter.unusedSimpArgs false
set_option maxRecDepth 100000
namespace Go.Proofs.YthmcpmnhdbeahaaGreat.P
open Go Go.RowKit Go.Proofs.YthmcpmnhdbeahaaGreat.D
noncomputable def Zas.E:Env:={ tt:=TT,con:=[(104,Za0.con)],frz:=[],rows:=[],live:=[(3,[0,1,2,3,4,11,12])],n:=41,pin:=0,nils:=[] }
noncomputable def Zas.fn:D.Fn:={ body:=Tryz.f200.body.getD .skip,res:=Tryz.f200.results.toList,ins:=[.one (.v (.sl 2 (.int .i64))),.one (.v (.sl 2 (.int .i64))),.one (.v (.int .i64)),.one (.v (.int .i64)),.one (.v (.int .i64))],outs:=[.one (.own 2 true (.int .i64))] }
def Zas.enc (y:lsd (flats Zas.fn.outs)×lsd (ios Zas.fn.ins)):(List Int):=y.1.1
noncomputable def Zas.f (l0:List Int) (l1:List Int) (a2:Int) (a3:Int) (a4:Int):Option (List Int):=denF Zas.E Zas.fn Zas.enc (l0,l1,a2,a3,a4,())
noncomputable def Zas.l0 (x0:List Int) (x1:List Int) (x2:Int) (x3:Int) (x4:Int) (x12:Int) (r0:List Int):Option (List Int):=denAt Zas.E Zas.fn Zas.enc [1,1,0,1,0] { fr:=[(0,.lf (.sl (.int .i64) x0)),(1,.lf (.sl (.int .i64) x1)),(2,.lf (.int .i64 x2)),(3,.lf (.int .i64 x3)),(4,.lf (.int .i64 x4)),(11,.lf (.own 0)),(12,.lf (.int .i64 x12))],ob:=[(0,.row 2 true (.int .i64) r0)],nx:=1 }
theorem Zas.f_eq (l0:List Int) (l1:List Int) (a2:Int) (a3:Int) (a4:Int):Zas.f l0 l1 a2 a3 a4=if(l0.length:Int)=(l0.length:Int)then(if 0≤(l0.length:Int)then(if((l0.length:Int):Int).toNat≤17592186044416 then(Zas.l0 l0 l1 a2 a3 a4 0 (List.replicate ((l0.length:Int):Int).toNat (0:Int)))else none)else none)else none:=by kernel_rfl
theorem Zas.l0_eq (x0:List Int) (x1:List Int) (x2:Int) (x3:Int) (x4:Int) (x12:Int) (r0:List Int):Zas.l0 x0 x1 x2 x3 x4 x12 r0=if x12 < (x0.length:Int)then(if 0≤x12 then(if x12 < (x0.length:Int)then(if 0≤x12 then(if x12 < (x1.length:Int)then((Za0.f (wrapI ((wrapI (x2*(rd x0 x12)))+(wrapI (x3*(rd x1 x12))))) x4).bind fun t38=>if 0≤x12 then(if x12 < (r0.length:Int)then(if 0≤x12 then(if x12 < (r0.length:Int)then(Zas.l0 x0 x1 x2 x3 x4 (wrapI (x12+1)) (r0.set (x12:Int).toNat t38))else none)else none)else none)else none)else none)else none)else none)else none)else(some r0):=(Zm _ _ _ _).trans (by kernel_rfl)
noncomputable def Zas.con:Con:=⟨Zas.fn.ins,Zas.fn.outs,(List Int),fun x=>Zas.f x.1 x.2.1 x.2.2.1 x.2.2.2.1 x.2.2.2.2.1,fun r=>((r,()),(()))⟩
theorem Zas.valid:Valid Tryz.prog 200 Zas.con:=fnV Zas.fn Zas.E Zas.enc ⟨ttOk,(Zf Za0.valid Zap)⟩ Tryz.func200
end Go.Proofs.YthmcpmnhdbeahaaGreat.P
namespace Go.Proofs.YthmcpmnhdbeahaaGreat.P
open Go Go.RowKit Go.Proofs.YthmcpmnhdbeahaaGreat.D
noncomputable def ZaA.E:Env:={ tt:=TT,con:=[(183,ZaI.con),(200,Zas.con)],frz:=[],rows:=[],live:=[(4,[0,1,2,7,8])],n:=40,pin:=0,nils:=[] }
noncomputable def ZaA.fn:D.Fn:={ body:=Tryz.f300.body.getD .skip,res:=Tryz.f300.results.toList,ins:=[.one (.v (.sl 2 (.int .i64))),.one (.v (.int .i64)),.one (.v (.int .i64))],outs:=[.one (.own 2 true (.int .i64))] }
def ZaA.enc (y:lsd (flats ZaA.fn.outs)×lsd (ios ZaA.fn.ins)):(List Int):=y.1.1
noncomputable def ZaA.f (l0:List Int) (a1:Int) (a2:Int):Option (List Int):=denF ZaA.E ZaA.fn ZaA.enc (l0,a1,a2,())
noncomputable def ZaA.l0 (x0:List Int) (x1:Int) (x2:Int) (x7:Int) (x8:Int):Option (List Int):=denAt ZaA.E ZaA.fn ZaA.enc [1,1,1,0] { fr:=[(0,.lf (.sl (.int .i64) x0)),(1,.lf (.int .i64 x1)),(2,.lf (.int .i64 x2)),(7,.lf (.int .i64 x7)),(8,.lf (.int .i64 x8))],ob:=[],nx:=0 }
theorem ZaA.f_eq (l0:List Int) (a1:Int) (a2:Int):ZaA.f l0 a1 a2=if 0≤a1 then(if a1 < (l0.length:Int)then((ZaI.f (rd l0 a1) a2).bind fun t14=>ZaA.l0 l0 a1 a2 t14 1)else none)else none:=by kernel_rfl
theorem ZaA.l0_eq (x0:List Int) (x1:Int) (x2:Int) (x7:Int) (x8:Int):ZaA.l0 x0 x1 x2 x7 x8=(ZaI.f x8 x2).bind fun t19=>if t19=1 then(if 0≤x1 then(if x1 < (x0.length:Int)then(if x2=0 then none else(if x2=0 then none else(if((wrapI ((rd x0 x1)*x8):Int).tmod x2)=((x7:Int).tmod x2)then((Zas.f x0 x0 x8 0 x2).bind fun t39=>some t39)else(ZaA.l0 x0 x1 x2 x7 (wrapI (x8+1))))))else none)else none)else(ZaA.l0 x0 x1 x2 x7 (wrapI (x8+1))):=(Zm _ _ _ _).trans (by kernel_rfl)
noncomputable def ZaA.con:Con:=⟨ZaA.fn.ins,ZaA.fn.outs,(List Int),fun x=>ZaA.f x.1 x.2.1 x.2.2.1,fun r=>((r,()),(()))⟩
theorem ZaA.valid:Valid Tryz.prog 300 ZaA.con:=fnV ZaA.fn ZaA.E ZaA.enc ⟨ttOk,(Zf ZaI.valid (Zf Zas.valid Zap))⟩ Tryz.func300
end Go.Proofs.YthmcpmnhdbeahaaGreat.P
namespace Go.Proofs.YthmcpmnhdbeahaaGreat.P
open Go Go.RowKit Go.Proofs.YthmcpmnhdbeahaaGreat.D
noncomputable def Zaj.E:Env:={ tt:=TT,con:=[],frz:=[],rows:=[],live:=[(2,[0,1,7,8,9,10])],n:=43,pin:=0,nils:=[] }
noncomputable def Zaj.fn:D.Fn:={ body:=Tryz.f301.body.getD .skip,res:=Tryz.f301.results.toList,ins:=[.one (.v (.int .i64)),.one (.v (.int .i64))],outs:=[.one (.v (.int .i64)),.one (.v (.int .i64)),.one (.v (.int .i64))] }
def Zaj.enc (y:lsd (flats Zaj.fn.outs)×lsd (ios Zaj.fn.ins)):Int×Int×Int:=(y.1.1,y.1.2.1,y.1.2.2.1)
noncomputable def Zaj.f (a0:Int) (a1:Int):Option (Int×Int×Int):=denF Zaj.E Zaj.fn Zaj.enc (a0,a1,())
noncomputable def Zaj.l0 (x0:Int) (x1:Int) (x7:Int) (x8:Int) (x9:Int) (x10:Int):Option (Int×Int×Int):=denAt Zaj.E Zaj.fn Zaj.enc [1,1,0,0] { fr:=[(0,.lf (.int .i64 x0)),(1,.lf (.int .i64 x1)),(7,.lf (.int .i64 x7)),(8,.lf (.int .i64 x8)),(9,.lf (.int .i64 x9)),(10,.lf (.int .i64 x10))],ob:=[],nx:=0 }
theorem Zaj.f_eq (a0:Int) (a1:Int):Zaj.f a0 a1=Zaj.l0 a0 a1 1 0 0 1:=by kernel_rfl
theorem Zaj.l0_eq (x0:Int) (x1:Int) (x7:Int) (x8:Int) (x9:Int) (x10:Int):Zaj.l0 x0 x1 x7 x8 x9 x10=if x1=0 then(some (x0,x7,x8))else(if x1=0 then none else(Zaj.l0 x1 (wrapI (x0 - (wrapI ((wrapI ((x0:Int).tdiv x1))*x1)))) x9 x10 (wrapI (x7 - (wrapI ((wrapI ((x0:Int).tdiv x1))*x9)))) (wrapI (x8 - (wrapI ((wrapI ((x0:Int).tdiv x1))*x10)))))):=(Zm _ _ _ _).trans (by kernel_rfl)
noncomputable def Zaj.con:Con:=⟨Zaj.fn.ins,Zaj.fn.outs,Int×Int×Int,fun x=>Zaj.f x.1 x.2.1,fun r=>((r.1,r.2.1,r.2.2,()),(()))⟩
theorem Zaj.valid:Valid Tryz.prog 301 Zaj.con:=fnV Zaj.fn Zaj.E Zaj.enc ⟨ttOk,Zap⟩ Tryz.func301
end Go.Proofs.YthmcpmnhdbeahaaGreat.P
namespace Go.Proofs.YthmcpmnhdbeahaaGreat.P
open Go Go.RowKit Go.Proofs.YthmcpmnhdbeahaaGreat.D
noncomputable def ZA.E:Env:={ tt:=TT,con:=[(300,ZaA.con),(200,Zas.con),(301,Zaj.con)],frz:=[53,71,99,120,131,143],rows:=[16,72,144],live:=[(1,[0,2,6]),(5,[0,2,6,7,8])],n:=147,pin:=1,nils:=[] }
noncomputable def ZA.fn:D.Fn:={ body:=Tryz.f298.body.getD .skip,res:=Tryz.f298.results.toList,ins:=[.one (.own 27 false (.sl 2 (.int .i64))),.one (.v (.sl 2 (.int .i64))),.one (.v (.int .i64))],outs:=[] }
def ZA.enc (y:lsd (flats ZA.fn.outs)×lsd (ios ZA.fn.ins)):(List (List Int)):=y.2.1
noncomputable def ZA.f (l0:List (List Int)) (l1:List Int) (a2:Int):Option (List (List Int)):=denF ZA.E ZA.fn ZA.enc (l0,l1,a2,())
noncomputable def ZA.l0 (x2:Int) (r0:List (List Int)) (r1:List (List Int)):Option (List (List Int)):=denAt ZA.E ZA.fn ZA.enc [1,0] { fr:=[(0,.lf (.own 0)),(2,.lf (.int .i64 x2)),(6,.lf (.own 1))],ob:=[(0,.row 27 false (.sl 2 (.int .i64)) r0),(1,.row 27 false (.sl 2 (.int .i64)) r1)],nx:=2 }
noncomputable def ZA.l1 (x2:Int) (x7:List Int) (x8:Int) (r0:List (List Int)) (r1:List (List Int)):Option (List (List Int)):=denAt ZA.E ZA.fn ZA.enc [1,0,0,1,0,1,1,1,0] { fr:=[(0,.lf (.own 0)),(2,.lf (.int .i64 x2)),(6,.lf (.own 1)),(7,.lf (.sl (.int .i64) x7)),(8,.lf (.int .i64 x8))],ob:=[(0,.row 27 false (.sl 2 (.int .i64)) r0),(1,.row 27 false (.sl 2 (.int .i64)) r1)],nx:=2 }
theorem ZA.f_eq (l0:List (List Int)) (l1:List Int) (a2:Int):ZA.f l0 l1 a2=ZA.l0 a2 l0 ([l1]:List (List Int)):=by kernel_rfl
theorem ZA.l0_eq (x2:Int) (r0:List (List Int)) (r1:List (List Int)):ZA.l0 x2 r0 r1=if(r1.length:Int) > 0 then(if 0≤wrapI ((r1.length:Int) - 1)then(if wrapI ((r1.length:Int) - 1) < (r1.length:Int)then(if 0≤wrapI ((r1.length:Int) - 1)then(if wrapI ((r1.length:Int) - 1) < (r1.length:Int)then(if 0 < (r1.length:Int)then(if 0≤wrapI ((r1.length:Int) - 1)then(if wrapI ((r1.length:Int) - 1)≤(r1.length:Int)then(ZA.l1 x2 (row r1 (wrapI ((r1.length:Int) - 1))) 0 r0 (r1.take (wrapI ((r1.length:Int) - 1):Int).toNat))else none)else none)else none)else none)else none)else none)else none)else(some r0):=(Zm _ _ _ _).trans (by kernel_rfl)
theorem ZA.l1_eq (x2:Int) (x7:List Int) (x8:Int) (r0:List (List Int)) (r1:List (List Int)):ZA.l1 x2 x7 x8 r0 r1=if x8 < (x7.length:Int)then(if 0≤x8 then(if x8 < (x7.length:Int)then(if(rd x7 x8)=0 then(ZA.l1 x2 x7 (wrapI (x8+1)) r0 r1)else(if 0≤x8 then(if x8 < (r0.length:Int)then(if 0≤x8 then(if x8 < (r0.length:Int)then(if((row r0 x8).length:Int)=0 then((ZaA.f x7 x8 x2).bind fun t53=>if 0≤x8 then(if x8 < (r0.length:Int)then(if 0≤x8 then(if x8 < (r0.length:Int)then(if 0≤x8 then(if x8 < ((r0.set (x8:Int).toNat t53).length:Int)then(if 0≤x8 then(if x8 < ((r0.set (x8:Int).toNat t53).length:Int)then(if 0≤x8 then(if x8 < ((r0.set (x8:Int).toNat t53).length:Int)then(if 0≤x8 then(if x8 < ((r0.set (x8:Int).toNat t53).length:Int)then(if 0≤x8 then(if x8 < ((row (r0.set (x8:Int).toNat t53) x8).length:Int)then(if(T (r0.set (x8:Int).toNat t53) x8 x8)=0 then none else((Zas.f (row (r0.set (x8:Int).toNat t53) x8) x7 (wrapI ((x2:Int).tdiv (T (r0.set (x8:Int).toNat t53) x8 x8))) 0 x2).bind fun t71=>if r1.length+([t71]:List (List Int)).length≤5864062014805 then(ZA.l0 x2 (r0.set (x8:Int).toNat t53) (r1++([t71]:List (List Int))))else none))else none)else none)else none)else none)else none)else none)else none)else none)else none)else none)else none)else none)else none)else none)else(if 0≤x8 then(if x8 < (r0.length:Int)then(if 0≤x8 then(if x8 < (r0.length:Int)then(if 0≤x8 then(if x8 < ((row r0 x8).length:Int)then(if 0≤x8 then(if x8 < (x7.length:Int)then(if(T r0 x8 x8)=0 then none else(if((rd x7 x8:Int).tmod (T r0 x8 x8))=0 then(if 0≤x8 then(if x8 < (r0.length:Int)then(if 0≤x8 then(if x8 < (r0.length:Int)then(if(T r0 x8 x8)=0 then none else((Zas.f x7 (row r0 x8) 1 (wrapI (0 - (wrapI ((rd x7 x8:Int).tdiv (T r0 x8 x8))))) x2).bind fun t99=>ZA.l1 x2 t99 (wrapI (x8+1)) r0 r1))else none)else none)else none)else none)else((Zaj.f (T r0 x8 x8) (rd x7 x8)).bind fun t103=>if 0≤x8 then(if x8 < (r0.length:Int)then(if 0≤x8 then(if x8 < (r0.length:Int)then(if t103.1=0 then none else(if t103.1=0 then none else((Zas.f (row r0 x8) x7 (wrapI ((rd x7 x8:Int).tdiv t103.1)) (wrapI (0 - (wrapI ((T r0 x8 x8:Int).tdiv t103.1)))) x2).bind fun t120=>if 0≤x8 then(if x8 < (r0.length:Int)then(if 0≤x8 then(if x8 < (r0.length:Int)then((Zas.f (row r0 x8) x7 t103.2.1 t103.2.2 x2).bind fun t131=>if 0≤x8 then(if x8 < (r0.length:Int)then(if 0≤x8 then(if x8 < (r0.length:Int)then(if 0≤x8 then(if x8 < ((r0.set (x8:Int).toNat t131).length:Int)then(if 0≤x8 then(if x8 < ((r0.set (x8:Int).toNat t131).length:Int)then(if t103.1=0 then none else((Zas.f (row (r0.set (x8:Int).toNat t131) x8) x7 (wrapI ((x2:Int).tdiv t103.1)) 0 x2).bind fun t143=>if r1.length+([t143]:List (List Int)).length≤5864062014805 then(ZA.l1 x2 t120 (wrapI (x8+1)) (r0.set (x8:Int).toNat t131) (r1++([t143]:List (List Int))))else none))else none)else none)else none)else none)else none)else none)else none)else none)else none)else none)else none)else none)))else none)else none)else none)else none)))else none)else none)else none)else none)else none)else none)else none)else none))else none)else none)else none)else none))else none)else none)else(ZA.l0 x2 r0 r1):=(Zm _ _ _ _).trans (by kernel_rfl)
noncomputable def ZA.con:Con:=⟨ZA.fn.ins,ZA.fn.outs,(List (List Int)),fun x=>ZA.f x.1 x.2.1 x.2.2.1,fun r=>((()),(r,()))⟩
theorem ZA.valid:Valid Tryz.prog 298 ZA.con:=fnV ZA.fn ZA.E ZA.enc ⟨ttOk,(Zf ZaA.valid (Zf Zas.valid (Zf Zaj.valid Zap)))⟩ Tryz.func298
end Go.Proofs.YthmcpmnhdbeahaaGreat.P
namespace Go.Proofs.YthmcpmnhdbeahaaGreat.P
open Go Go.RowKit Go.Proofs.YthmcpmnhdbeahaaGreat.D
noncomputable def ZY.E:Env:={ tt:=TT,con:=[(298,ZA.con)],frz:=[],rows:=[10],live:=[(3,[0,2,7,8])],n:=25,pin:=0,nils:=[] }
noncomputable def ZY.fn:D.Fn:={ body:=Tryz.f290.body.getD .skip,res:=Tryz.f290.results.toList,ins:=[.one (.v (.sl 27 (.sl 2 (.int .i64)))),.one (.v (.int .i64)),.one (.v (.int .i64))],outs:=[.one (.own 27 false (.sl 2 (.int .i64)))] }
def ZY.enc (y:lsd (flats ZY.fn.outs)×lsd (ios ZY.fn.ins)):(List (List Int)):=y.1.1
noncomputable def ZY.f (l0:List (List Int)) (a1:Int) (a2:Int):Option (List (List Int)):=denF ZY.E ZY.fn ZY.enc (l0,a1,a2,())
noncomputable def ZY.l0 (x0:List (List Int)) (x2:Int) (x8:Int) (r0:List (List Int)):Option (List (List Int)):=denAt ZY.E ZY.fn ZY.enc [1,1,0,1,0] { fr:=[(0,.lf (.sl (.sl 2 (.int .i64)) x0)),(2,.lf (.int .i64 x2)),(7,.lf (.own 0)),(8,.lf (.int .i64 x8))],ob:=[(0,.row 27 false (.sl 2 (.int .i64)) r0)],nx:=1 }
theorem ZY.f_eq (l0:List (List Int)) (a1:Int) (a2:Int):ZY.f l0 a1 a2=if a1=a1 then(if 0≤a1 then(if(a1:Int).toNat≤5864062014805 then(ZY.l0 l0 a2 0 (List.replicate (a1:Int).toNat ([]:List Int)))else none)else none)else none:=by kernel_rfl
theorem ZY.l0_eq (x0:List (List Int)) (x2:Int) (x8:Int) (r0:List (List Int)):ZY.l0 x0 x2 x8 r0=if x8 < (x0.length:Int)then(if 0≤x8 then(if x8 < (x0.length:Int)then((ZA.f r0 (row x0 x8) x2).bind fun t23=>ZY.l0 x0 x2 (wrapI (x8+1)) t23)else none)else none)else(some r0):=(Zm _ _ _ _).trans (by kernel_rfl)
noncomputable def ZY.con:Con:=⟨ZY.fn.ins,ZY.fn.outs,(List (List Int)),fun x=>ZY.f x.1 x.2.1 x.2.2.1,fun r=>((r,()),(()))⟩
theorem ZY.valid:Valid Tryz.prog 290 ZY.con:=fnV ZY.fn ZY.E ZY.enc ⟨ttOk,(Zf ZA.valid Zap)⟩ Tryz.func290
end Go.Proofs.YthmcpmnhdbeahaaGreat.P
namespace Go.Proofs.YthmcpmnhdbeahaaGreat.P
open Go Go.RowKit Go.Proofs.YthmcpmnhdbeahaaGreat.D
noncomputable def Za2.E:Env:={ tt:=TT,con:=[(199,ZG.con)],frz:=[],rows:=[],live:=[],n:=11,pin:=0,nils:=[] }
noncomputable def Za2.fn:D.Fn:={ body:=Tryz.f201.body.getD .skip,res:=Tryz.f201.results.toList,ins:=[.agg [.v (.sl 27 (.sl 2 (.int .i64)))],.one (.v (.int .i64))],outs:=[.agg [.v (.int .i64),.own 2 true (.int .i64)]] }
def Za2.enc (y:lsd (flats Za2.fn.outs)×lsd (ios Za2.fn.ins)):Int×(List Int):=(y.1.1,y.1.2.1)
noncomputable def Za2.f (l0_0:List (List Int)) (a1:Int):Option (Int×(List Int)):=denF Za2.E Za2.fn Za2.enc (l0_0,a1,())
theorem Za2.f_eq (l0_0:List (List Int)) (a1:Int):Za2.f l0_0 a1=(ZG.f l0_0 a1).bind fun t8=>if t8=t8 then(if 0≤t8 then(if(t8:Int).toNat≤17592186044416 then(some (a1,List.replicate (t8:Int).toNat (0:Int)))else none)else none)else none:=by kernel_rfl
noncomputable def Za2.con:Con:=⟨Za2.fn.ins,Za2.fn.outs,Int×(List Int),fun x=>Za2.f x.1 x.2.1,fun r=>((r.1,r.2,()),(()))⟩
theorem Za2.valid:Valid Tryz.prog 201 Za2.con:=fnV Za2.fn Za2.E Za2.enc ⟨ttOk,(Zf ZG.valid Zap)⟩ Tryz.func201
end Go.Proofs.YthmcpmnhdbeahaaGreat.P
namespace Go.Proofs.YthmcpmnhdbeahaaGreat.P
open Go Go.RowKit Go.Proofs.YthmcpmnhdbeahaaGreat.D
noncomputable def ZaD.E:Env:={ tt:=TT,con:=[(91,ZX.con)],frz:=[],rows:=[],live:=[(3,[2,3,4,7,8])],n:=36,pin:=0,nils:=[] }
noncomputable def ZaD.fn:D.Fn:={ body:=Tryz.f208.body.getD .skip,res:=Tryz.f208.results.toList,ins:=[.agg [.v (.sl 27 (.sl 2 (.int .i64)))],.agg [.v (.int .i64),.v (.sl 2 (.int .i64))],.one (.v (.sl 2 (.int .i64)))],outs:=[.one (.v (.int .i64))] }
def ZaD.enc (y:lsd (flats ZaD.fn.outs)×lsd (ios ZaD.fn.ins)):Int:=y.1.1
noncomputable def ZaD.f (l0_0:List (List Int)) (a1_0:Int) (l1_1:List Int) (l2:List Int):Option Int:=denF ZaD.E ZaD.fn ZaD.enc (l0_0,a1_0,l1_1,l2,())
noncomputable def ZaD.l0 (x2:List Int) (x7:Int) (x8:Int) (b0_0:List (List Int)) (b1_0:Int) (b1_1:List Int):Option Int:=denAt ZaD.E ZaD.fn ZaD.enc [1,1,0,1,0] { fr:=[(2,.lf (.sl (.int .i64) x2)),(3,.lf (.box 0 0)),(4,.lf (.box 1 0)),(7,.lf (.int .i64 x7)),(8,.lf (.int .i64 x8))],ob:=[(0,.box 26 false [.sl (.sl 2 (.int .i64)) b0_0]),(1,.box 56 false [.int .i64 b1_0,.sl (.int .i64) b1_1])],nx:=2 }
theorem ZaD.f_eq (l0_0:List (List Int)) (a1_0:Int) (l1_1:List Int) (l2:List Int):ZaD.f l0_0 a1_0 l1_1 l2=ZaD.l0 l2 0 0 l0_0 a1_0 l1_1:=by kernel_rfl
theorem ZaD.l0_eq (x2:List Int) (x7:Int) (x8:Int) (b0_0:List (List Int)) (b1_0:Int) (b1_1:List Int):ZaD.l0 x2 x7 x8 b0_0 b1_0 b1_1=if x8 < (x2.length:Int)then(if 0≤x8 then(if x8 < (x2.length:Int)then(if(rd x2 x8)=0 then(some 0)else((ZX.f b0_0).bind fun t22=>if 0≤x8 then(if x8 < (x2.length:Int)then(ZaD.l0 x2 (wrapI ((wrapI ((wrapI (x7*(wrapI (t22 - 1))))+(rd x2 x8))) - 1)) (wrapI (x8+1)) b0_0 b1_0 b1_1)else none)else none))else none)else none)else(if 0≤x7 then(if x7 < (b1_1.length:Int)then(some (rd b1_1 x7))else none)else none):=(Zm _ _ _ _).trans (by kernel_rfl)
noncomputable def ZaD.con:Con:=⟨ZaD.fn.ins,ZaD.fn.outs,Int,fun x=>ZaD.f x.1 x.2.1 x.2.2.1 x.2.2.2.1,fun r=>((r,()),(()))⟩
theorem ZaD.valid:Valid Tryz.prog 208 ZaD.con:=fnV ZaD.fn ZaD.E ZaD.enc ⟨ttOk,(Zf ZX.valid Zap)⟩ Tryz.func208
end Go.Proofs.YthmcpmnhdbeahaaGreat.P
namespace Go.Proofs.YthmcpmnhdbeahaaGreat.P
open Go Go.RowKit Go.Proofs.YthmcpmnhdbeahaaGreat.D
noncomputable def Zar.E:Env:={ tt:=TT,con:=[(208,ZaD.con),(184,Zal.con),(104,Za0.con)],frz:=[],rows:=[],live:=[(4,[3,4,5,6,9,10,11,12])],n:=85,pin:=0,nils:=[] }
noncomputable def Zar.fn:D.Fn:={ body:=Tryz.f259.body.getD .skip,res:=Tryz.f259.results.toList,ins:=[.agg [.v (.sl 27 (.sl 2 (.int .i64)))],.agg [.v (.int .i64),.v (.sl 2 (.int .i64))],.agg [.v (.int .i64),.v (.sl 2 (.int .i64))],.one (.v (.sl 2 (.int .i64)))],outs:=[.one (.v (.int .i64))] }
def Zar.enc (y:lsd (flats Zar.fn.outs)×lsd (ios Zar.fn.ins)):Int:=y.1.1
noncomputable def Zar.f (l0_0:List (List Int)) (a1_0:Int) (l1_1:List Int) (a2_0:Int) (l2_1:List Int) (l3:List Int):Option Int:=denF Zar.E Zar.fn Zar.enc (l0_0,a1_0,l1_1,a2_0,l2_1,l3,())
noncomputable def Zar.l0 (x3:List Int) (x9:Int) (x10:Int) (x11:Int) (x12:Int) (b0_0:List (List Int)) (b1_0:Int) (b1_1:List Int) (b2_0:Int) (b2_1:List Int):Option Int:=denAt Zar.E Zar.fn Zar.enc [1,1,1,0,1,0] { fr:=[(3,.lf (.sl (.int .i64) x3)),(4,.lf (.box 0 0)),(5,.lf (.box 1 0)),(6,.lf (.box 2 0)),(9,.lf (.int .i64 x9)),(10,.lf (.int .i64 x10)),(11,.lf (.int .i64 x11)),(12,.lf (.int .i64 x12))],ob:=[(0,.box 26 false [.sl (.sl 2 (.int .i64)) b0_0]),(1,.box 29 false [.int .i64 b1_0,.sl (.int .i64) b1_1]),(2,.box 56 false [.int .i64 b2_0,.sl (.int .i64) b2_1])],nx:=3 }
theorem Zar.f_eq (l0_0:List (List Int)) (a1_0:Int) (l1_1:List Int) (a2_0:Int) (l2_1:List Int) (l3:List Int):Zar.f l0_0 a1_0 l1_1 a2_0 l2_1 l3=if 0 < (l3.length:Int)then(if 0≤rd l3 0 then(if rd l3 0 < (l1_1.length:Int)then(if 1≤(l3.length:Int)then((ZaD.f l0_0 a2_0 l2_1 (l3.drop (1:Int).toNat)).bind fun t28=>Zar.l0 l3 (wrapI ((l3.length:Int) - 1)) (wrapI ((rd l1_1 (rd l3 0))*t28)) (-1) 0 l0_0 a1_0 l1_1 a2_0 l2_1)else none)else none)else none)else none:=by kernel_rfl
theorem Zar.l0_eq (x3:List Int) (x9:Int) (x10:Int) (x11:Int) (x12:Int) (b0_0:List (List Int)) (b1_0:Int) (b1_1:List Int) (b2_0:Int) (b2_1:List Int):Zar.l0 x3 x9 x10 x11 x12 b0_0 b1_0 b1_1 b2_0 b2_1=if x12 < x9 then(if 0≤x12 then(if x12≤(x3.length:Int)then((Zal.f (x3.take (x12:Int).toNat)).bind fun t38=>if 0≤x12 then(if x12 < (x3.length:Int)then(if 0≤rd x3 x12 then(if rd x3 x12 < (b0_0.length:Int)then(if 0≤wrapI (x12+1)then(if wrapI (x12+1) < (x3.length:Int)then(if 0≤rd x3 (wrapI (x12+1))then(if rd x3 (wrapI (x12+1)) < ((row b0_0 (rd x3 x12)).length:Int)then(if t38.length+([T b0_0 (rd x3 x12) (rd x3 (wrapI (x12+1)))]:List Int).length≤17592186044416 then(if 0≤wrapI (x12+2)then(if wrapI (x12+2)≤(x3.length:Int)then(if(t38++([T b0_0 (rd x3 x12) (rd x3 (wrapI (x12+1)))]:List Int)).length+(x3.drop (wrapI (x12+2):Int).toNat).length≤17592186044416 then((ZaD.f b0_0 b2_0 b2_1 ((t38++([T b0_0 (rd x3 x12) (rd x3 (wrapI (x12+1)))]:List Int))++(x3.drop (wrapI (x12+2):Int).toNat))).bind fun t67=>Zar.l0 x3 x9 (wrapI (x10+(wrapI (x11*t67)))) (wrapI (0 - x11)) (wrapI (x12+1)) b0_0 b1_0 b1_1 b2_0 b2_1)else none)else none)else none)else none)else none)else none)else none)else none)else none)else none)else none)else none)else none)else none)else(if 0≤x9 then(if x9≤(x3.length:Int)then((ZaD.f b0_0 b2_0 b2_1 (x3.take (x9:Int).toNat)).bind fun t79=>(Za0.f (wrapI (x10+(wrapI (x11*t79)))) b1_0).bind fun t84=>some t84)else none)else none):=(Zm _ _ _ _).trans (by kernel_rfl)
noncomputable def Zar.con:Con:=⟨Zar.fn.ins,Zar.fn.outs,Int,fun x=>Zar.f x.1 x.2.1 x.2.2.1 x.2.2.2.1 x.2.2.2.2.1 x.2.2.2.2.2.1,fun r=>((r,()),(()))⟩
theorem Zar.valid:Valid Tryz.prog 259 Zar.con:=fnV Zar.fn Zar.E Zar.enc ⟨ttOk,(Zf ZaD.valid (Zf Zal.valid (Zf Za0.valid Zap)))⟩ Tryz.func259
end Go.Proofs.YthmcpmnhdbeahaaGreat.P
namespace Go.Proofs.YthmcpmnhdbeahaaGreat.P
open Go Go.RowKit Go.Proofs.YthmcpmnhdbeahaaGreat.D
noncomputable def Zaw.E:Env:={ tt:=TT,con:=[(91,ZX.con)],frz:=[],rows:=[],live:=[(3,[2,7,8,9])],n:=32,pin:=0,nils:=[] }
noncomputable def Zaw.fn:D.Fn:={ body:=Tryz.f260.body.getD .skip,res:=Tryz.f260.results.toList,ins:=[.agg [.v (.sl 27 (.sl 2 (.int .i64)))],.one (.v (.int .i64)),.one (.v (.int .i64))],outs:=[.one (.own 2 true (.int .i64))] }
def Zaw.enc (y:lsd (flats Zaw.fn.outs)×lsd (ios Zaw.fn.ins)):(List Int):=y.1.1
noncomputable def Zaw.f (l0_0:List (List Int)) (a1:Int) (a2:Int):Option (List Int):=denF Zaw.E Zaw.fn Zaw.enc (l0_0,a1,a2,())
noncomputable def Zaw.l0 (x2:Int) (x8:Int) (x9:Int) (r0:List Int):Option (List Int):=denAt Zaw.E Zaw.fn Zaw.enc [1,1,0,1,0] { fr:=[(2,.lf (.int .i64 x2)),(7,.lf (.own 0)),(8,.lf (.int .i64 x8)),(9,.lf (.int .i64 x9))],ob:=[(0,.row 2 true (.int .i64) r0)],nx:=1 }
theorem Zaw.f_eq (l0_0:List (List Int)) (a1:Int) (a2:Int):Zaw.f l0_0 a1 a2=if a1=a1 then(if 0≤a1 then(if(a1:Int).toNat≤17592186044416 then((ZX.f l0_0).bind fun t13=>Zaw.l0 a2 (wrapI (t13 - 1)) (wrapI (a1 - 1)) (List.replicate (a1:Int).toNat (0:Int)))else none)else none)else none:=by kernel_rfl
theorem Zaw.l0_eq (x2:Int) (x8:Int) (x9:Int) (r0:List Int):Zaw.l0 x2 x8 x9 r0=if x9≥0 then(if x8=0 then none else(if 0≤x9 then(if x9 < (r0.length:Int)then(if 0≤x9 then(if x9 < (r0.length:Int)then(if x8=0 then none else(Zaw.l0 (wrapI ((x2:Int).tdiv x8)) x8 (wrapI (x9 - 1)) (r0.set (x9:Int).toNat (wrapI (((x2:Int).tmod x8)+1)))))else none)else none)else none)else none))else(some r0):=(Zm _ _ _ _).trans (by kernel_rfl)
noncomputable def Zaw.con:Con:=⟨Zaw.fn.ins,Zaw.fn.outs,(List Int),fun x=>Zaw.f x.1 x.2.1 x.2.2.1,fun r=>((r,()),(()))⟩
theorem Zaw.valid:Valid Tryz.prog 260 Zaw.con:=fnV Zaw.fn Zaw.E Zaw.enc ⟨ttOk,(Zf ZX.valid Zap)⟩ Tryz.func260
end Go.Proofs.YthmcpmnhdbeahaaGreat.P
namespace Go.Proofs.YthmcpmnhdbeahaaGreat.P
open Go Go.RowKit Go.Proofs.YthmcpmnhdbeahaaGreat.D
noncomputable def ZT.E:Env:={ tt:=TT,con:=[(199,ZG.con),(201,Za2.con),(260,Zaw.con),(259,Zar.con)],frz:=[],rows:=[],live:=[(3,[2,3,4,7,8,9]),(9,[2,3,4,7,8,9,10,11,12])],n:=58,pin:=0,nils:=[] }
noncomputable def ZT.fn:D.Fn:={ body:=Tryz.f291.body.getD .skip,res:=Tryz.f291.results.toList,ins:=[.agg [.v (.sl 27 (.sl 2 (.int .i64)))],.agg [.v (.int .i64),.v (.sl 2 (.int .i64))],.one (.v (.int .i64))],outs:=[.one (.own 27 true (.sl 2 (.int .i64)))] }
def ZT.enc (y:lsd (flats ZT.fn.outs)×lsd (ios ZT.fn.ins)):(List (List Int)):=y.1.1
noncomputable def ZT.f (l0_0:List (List Int)) (a1_0:Int) (l1_1:List Int) (a2:Int):Option (List (List Int)):=denF ZT.E ZT.fn ZT.enc (l0_0,a1_0,l1_1,a2,())
noncomputable def ZT.l0 (x2:Int) (x8:Int) (x9:Int) (b0_0:List (List Int)) (b1_0:Int) (b1_1:List Int) (r2:List (List Int)):Option (List (List Int)):=denAt ZT.E ZT.fn ZT.enc [1,1,0,1,0] { fr:=[(2,.lf (.int .i64 x2)),(3,.lf (.box 0 0)),(4,.lf (.box 1 0)),(7,.lf (.own 2)),(8,.lf (.int .i64 x8)),(9,.lf (.int .i64 x9))],ob:=[(0,.box 26 false [.sl (.sl 2 (.int .i64)) b0_0]),(1,.box 29 false [.int .i64 b1_0,.sl (.int .i64) b1_1]),(2,.row 27 true (.sl 2 (.int .i64)) r2)],nx:=3 }
noncomputable def ZT.l1 (x2:Int) (x8:Int) (x9:Int) (x12:Int) (b0_0:List (List Int)) (b1_0:Int) (b1_1:List Int) (r2:List (List Int)) (b3_0:Int) (r4:List Int) (r5:List Int):Option (List (List Int)):=denAt ZT.E ZT.fn ZT.enc [1,1,0,1,0,0,1,0,0,1,1,1,0,1,0] { fr:=[(2,.lf (.int .i64 x2)),(3,.lf (.box 0 0)),(4,.lf (.box 1 0)),(7,.lf (.own 2)),(8,.lf (.int .i64 x8)),(9,.lf (.int .i64 x9)),(10,.lf (.box 3 0)),(11,.lf (.own 4)),(12,.lf (.int .i64 x12))],ob:=[(0,.box 26 false [.sl (.sl 2 (.int .i64)) b0_0]),(1,.box 29 false [.int .i64 b1_0,.sl (.int .i64) b1_1]),(2,.row 27 true (.sl 2 (.int .i64)) r2),(3,.box 56 false [.int .i64 b3_0,.own 5]),(4,.row 2 true (.int .i64) r4),(5,.row 2 true (.int .i64) r5)],nx:=6 }
theorem ZT.f_eq (l0_0:List (List Int)) (a1_0:Int) (l1_1:List Int) (a2:Int):ZT.f l0_0 a1_0 l1_1 a2=(ZG.f l0_0 a2).bind fun t16=>ZT.l0 a2 t16 0 l0_0 a1_0 l1_1 ([]:List (List Int)):=by kernel_rfl
theorem ZT.l0_eq (x2:Int) (x8:Int) (x9:Int) (b0_0:List (List Int)) (b1_0:Int) (b1_1:List Int) (r2:List (List Int)):ZT.l0 x2 x8 x9 b0_0 b1_0 b1_1 r2=if x9 < x8 then((Za2.f b0_0 x2).bind fun t24=>if 0≤x9 then(if x9 < (t24.2.length:Int)then(if 0≤x9 then(if x9 < (t24.2.length:Int)then(ZT.l1 x2 x8 x9 0 b0_0 b1_0 b1_1 r2 t24.1 ([]:List Int) (t24.2.set (x9:Int).toNat 1))else none)else none)else none)else none)else(some r2):=(Zm _ _ _ _).trans (by kernel_rfl)
theorem ZT.l1_eq (x2:Int) (x8:Int) (x9:Int) (x12:Int) (b0_0:List (List Int)) (b1_0:Int) (b1_1:List Int) (r2:List (List Int)) (b3_0:Int) (r4:List Int) (r5:List Int):ZT.l1 x2 x8 x9 x12 b0_0 b1_0 b1_1 r2 b3_0 r4 r5=(ZG.f b0_0 (wrapI (x2+1))).bind fun t34=>if x12 < t34 then((Zaw.f b0_0 (wrapI (x2+1)) x12).bind fun t46=>(Zar.f b0_0 b1_0 b1_1 b3_0 r5 t46).bind fun t47=>if r4.length+([t47]:List Int).length≤17592186044416 then(ZT.l1 x2 x8 x9 (wrapI (x12+1)) b0_0 b1_0 b1_1 r2 b3_0 (r4++([t47]:List Int)) r5)else none)else(if r4.length+r5.length≤17592186044416 then(if r2.length+([r4++r5]:List (List Int)).length≤5864062014805 then(ZT.l0 x2 x8 (wrapI (x9+1)) b0_0 b1_0 b1_1 (r2++([r4++r5]:List (List Int))))else none)else none):=(Zm _ _ _ _).trans (by kernel_rfl)
noncomputable def ZT.con:Con:=⟨ZT.fn.ins,ZT.fn.outs,(List (List Int)),fun x=>ZT.f x.1 x.2.1 x.2.2.1 x.2.2.2.1,fun r=>((r,()),(()))⟩
theorem ZT.valid:Valid Tryz.prog 291 ZT.con:=fnV ZT.fn ZT.E ZT.enc ⟨ttOk,(Zf ZG.valid (Zf Za2.valid (Zf Zaw.valid (Zf Zar.valid Zap))))⟩ Tryz.func291
end Go.Proofs.YthmcpmnhdbeahaaGreat.P
namespace Go.Proofs.YthmcpmnhdbeahaaGreat.P
open Go Go.RowKit Go.Proofs.YthmcpmnhdbeahaaGreat.D
noncomputable def Zag.E:Env:={ tt:=TT,con:=[(199,ZG.con),(291,ZT.con),(290,ZY.con)],frz:=[25],rows:=[33,35],live:=[(5,[9,10,11,12,13,14])],n:=77,pin:=0,nils:=[] }
noncomputable def Zag.fn:D.Fn:={ body:=Tryz.f256.body.getD .skip,res:=Tryz.f256.results.toList,ins:=[.agg [.v (.sl 27 (.sl 2 (.int .i64)))],.agg [.v (.int .i64),.v (.sl 2 (.int .i64))],.one (.v (.int .i64))],outs:=[.one (.own 27 false (.sl 2 (.int .i64))),.one (.own 27 false (.sl 2 (.int .i64))),.one (.own 27 false (.sl 2 (.int .i64)))] }
def Zag.enc (y:lsd (flats Zag.fn.outs)×lsd (ios Zag.fn.ins)):(List (List Int))×(List (List Int))×(List (List Int)):=(y.1.1,y.1.2.1,y.1.2.2.1)
noncomputable def Zag.f (l0_0:List (List Int)) (a1_0:Int) (l1_1:List Int) (a2:Int):Option ((List (List Int))×(List (List Int))×(List (List Int))):=denF Zag.E Zag.fn Zag.enc (l0_0,a1_0,l1_1,a2,())
noncomputable def Zag.l0 (x9:Int) (x10:Int) (x14:Int) (r0:List (List Int)) (r1:List (List Int)) (r2:List (List Int)):Option ((List (List Int))×(List (List Int))×(List (List Int))):=denAt Zag.E Zag.fn Zag.enc [1,1,1,1,0,1,0] { fr:=[(9,.lf (.int .i64 x9)),(10,.lf (.int .i64 x10)),(11,.lf (.own 0)),(12,.lf (.own 1)),(13,.lf (.own 2)),(14,.lf (.int .i64 x14))],ob:=[(0,.row 27 false (.sl 2 (.int .i64)) r0),(1,.row 27 false (.sl 2 (.int .i64)) r1),(2,.row 27 false (.sl 2 (.int .i64)) r2)],nx:=3 }
theorem Zag.f_eq (l0_0:List (List Int)) (a1_0:Int) (l1_1:List Int) (a2:Int):Zag.f l0_0 a1_0 l1_1 a2=(ZG.f l0_0 (wrapI (a2+1))).bind fun t18=>(ZG.f l0_0 a2).bind fun t21=>(ZT.f l0_0 a1_0 l1_1 a2).bind fun t25=>(ZY.f t25 (wrapI (t18+t21)) a1_0).bind fun t31=>if t18=t18 then(if 0≤t18 then(if(t18:Int).toNat≤5864062014805 then(if t21=t21 then(if 0≤t21 then(if(t21:Int).toNat≤5864062014805 then(Zag.l0 t18 t21 0 t31 (List.replicate (t18:Int).toNat ([]:List Int)) (List.replicate (t21:Int).toNat ([]:List Int)))else none)else none)else none)else none)else none)else none:=by kernel_rfl
theorem Zag.l0_eq (x9:Int) (x10:Int) (x14:Int) (r0:List (List Int)) (r1:List (List Int)) (r2:List (List Int)):Zag.l0 x9 x10 x14 r0 r1 r2=if x14 < (wrapI (x9+x10))then(if 0≤x14 then(if x14 < (r0.length:Int)then(if 0≤x14 then(if x14 < (r0.length:Int)then(if((row r0 x14).length:Int)=0 then(Zag.l0 x9 x10 (wrapI (x14+1)) r0 r1 r2)else(if x14 < x9 then(if 0≤x14 then(if x14 < (r0.length:Int)then(if 0≤x14 then(if x14 < (r0.length:Int)then(if 0≤x9 then(if x9≤((row r0 x14).length:Int)then(if 0≤x14 then(if x14 < (r1.length:Int)then(if 0≤x14 then(if x14 < (r1.length:Int)then(Zag.l0 x9 x10 (wrapI (x14+1)) r0 (r1.set (x14:Int).toNat ((row r0 x14).take (x9:Int).toNat)) r2)else none)else none)else none)else none)else none)else none)else none)else none)else none)else none)else(if 0≤x14 then(if x14 < (r0.length:Int)then(if 0≤x14 then(if x14 < (r0.length:Int)then(if 0≤x9 then(if x9≤((row r0 x14).length:Int)then(if 0≤wrapI (x14 - x9)then(if wrapI (x14 - x9) < (r2.length:Int)then(if 0≤wrapI (x14 - x9)then(if wrapI (x14 - x9) < (r2.length:Int)then(Zag.l0 x9 x10 (wrapI (x14+1)) r0 r1 (r2.set (wrapI (x14 - x9):Int).toNat ((row r0 x14).drop (x9:Int).toNat)))else none)else none)else none)else none)else none)else none)else none)else none)else none)else none)))else none)else none)else none)else none)else(some (r1,r2,r0)):=(Zm _ _ _ _).trans (by kernel_rfl)
noncomputable def Zag.con:Con:=⟨Zag.fn.ins,Zag.fn.outs,(List (List Int))×(List (List Int))×(List (List Int)),fun x=>Zag.f x.1 x.2.1 x.2.2.1 x.2.2.2.1,fun r=>((r.1,r.2.1,r.2.2,()),(()))⟩
theorem Zag.valid:Valid Tryz.prog 256 Zag.con:=fnV Zag.fn Zag.E Zag.enc ⟨ttOk,(Zf ZG.valid (Zf ZT.valid (Zf ZY.valid Zap)))⟩ Tryz.func256
end Go.Proofs.YthmcpmnhdbeahaaGreat.P
namespace Go.Proofs.YthmcpmnhdbeahaaGreat.P
open Go Go.RowKit Go.Proofs.YthmcpmnhdbeahaaGreat.D
noncomputable def Za8.E:Env:={ tt:=TT,con:=[(256,Zag.con),(199,ZG.con)],frz:=[],rows:=[23],live:=[],n:=37,pin:=0,nils:=[] }
noncomputable def Za8.fn:D.Fn:={ body:=Tryz.f198.body.getD .skip,res:=Tryz.f198.results.toList,ins:=[.agg [.v (.sl 27 (.sl 2 (.int .i64)))],.agg [.v (.int .i64),.v (.sl 2 (.int .i64))],.one (.v (.int .i64))],outs:=[.one (.own 27 false (.sl 2 (.int .i64))),.one (.own 27 false (.sl 2 (.int .i64)))] }
def Za8.enc (y:lsd (flats Za8.fn.outs)×lsd (ios Za8.fn.ins)):(List (List Int))×(List (List Int)):=(y.1.1,y.1.2.1)
noncomputable def Za8.f (l0_0:List (List Int)) (a1_0:Int) (l1_1:List Int) (a2:Int):Option ((List (List Int))×(List (List Int))):=denF Za8.E Za8.fn Za8.enc (l0_0,a1_0,l1_1,a2,())
theorem Za8.f_eq (l0_0:List (List Int)) (a1_0:Int) (l1_1:List Int) (a2:Int):Za8.f l0_0 a1_0 l1_1 a2=(Zag.f l0_0 a1_0 l1_1 a2).bind fun t16=>(ZG.f l0_0 a2).bind fun t22=>if t22=t22 then(if 0≤t22 then(if(t22:Int).toNat≤5864062014805 then(if a2 > 0 then((Zag.f l0_0 a1_0 l1_1 (wrapI (a2 - 1))).bind fun t31=>some (t31.1,t16.2.1))else(some (List.replicate (t22:Int).toNat ([]:List Int),t16.2.1)))else none)else none)else none:=by kernel_rfl
noncomputable def Za8.con:Con:=⟨Za8.fn.ins,Za8.fn.outs,(List (List Int))×(List (List Int)),fun x=>Za8.f x.1 x.2.1 x.2.2.1 x.2.2.2.1,fun r=>((r.1,r.2,()),(()))⟩
theorem Za8.valid:Valid Tryz.prog 198 Za8.con:=fnV Za8.fn Za8.E Za8.enc ⟨ttOk,(Zf Zag.valid (Zf ZG.valid Zap))⟩ Tryz.func198
end Go.Proofs.YthmcpmnhdbeahaaGreat.P
namespace Go.Proofs.YthmcpmnhdbeahaaGreat.P
open Go Go.RowKit Go.Proofs.YthmcpmnhdbeahaaGreat.D
noncomputable def Zbj.E:Env:={ tt:=TT,con:=[(184,Zal.con),(174,ZK.con),(175,ZaE.con)],frz:=[22,48],rows:=[],live:=[],n:=52,pin:=1,nils:=[] }
noncomputable def Zbj.fn:D.Fn:={ body:=Tryz.f202.body.getD .skip,res:=Tryz.f202.results.toList,ins:=[.ptr false 143 [.v (.sl 5 (.int .u8)),.v (.int .i64),.v (.int .u64)],.agg [.v (.int .i64),.v (.sl 2 (.int .i64))],.agg [.v (.int .i64),.v (.sl 2 (.int .i64))]],outs:=[.agg [.v (.int .i64),.own 2 true (.int .i64)]] }
def Zbj.enc (y:lsd (flats Zbj.fn.outs)×lsd (ios Zbj.fn.ins)):Int×(List Int)×(List Int)×Int×Int:=(y.1.1,y.1.2.1,y.2.1,y.2.2.1,y.2.2.2.1)
noncomputable def Zbj.f (l0_0:List Int) (a0_1:Int) (a0_2:Int) (a1_0:Int) (l1_1:List Int) (a2_0:Int) (l2_1:List Int):Option (Int×(List Int)×(List Int)×Int×Int):=denF Zbj.E Zbj.fn Zbj.enc (l0_0,a0_1,a0_2,a1_0,l1_1,a2_0,l2_1,())
theorem Zbj.f_eq (l0_0:List Int) (a0_1:Int) (a0_2:Int) (a1_0:Int) (l1_1:List Int) (a2_0:Int) (l2_1:List Int):Zbj.f l0_0 a0_1 a0_2 a1_0 l1_1 a2_0 l2_1=(Zal.f l2_1).bind fun t12=>(ZK.f l0_0 a0_1 a0_2 40).bind fun t15=>if t15.1=0 then((ZaE.f t15.2.1 t15.2.2.1 t15.2.2.2 ([-1,4,wrapI (a2_0+1)]:List Int)).bind fun t23=>some (t23.1,t12,t23.2.1,t23.2.2.1,t23.2.2.2))else(if t15.1=1 then(if t12.length+([0]:List Int).length≤17592186044416 then(some (a2_0,t12++([0]:List Int),t15.2.1,t15.2.2.1,t15.2.2.2))else none)else(if t15.1=2 then(if(t12.length:Int) > 0 then((ZK.f t15.2.1 t15.2.2.1 t15.2.2.2 (t12.length:Int)).bind fun t44=>(ZaE.f t44.2.1 t44.2.2.1 t44.2.2.2 ([-1,a1_0]:List Int)).bind fun t49=>if 0≤t44.1 then(if t44.1 < (t12.length:Int)then(if 0≤t44.1 then(if t44.1 < (t12.length:Int)then(some (a2_0,t12.set (t44.1:Int).toNat t49.1,t49.2.1,t49.2.2.1,t49.2.2.2))else none)else none)else none)else none)else(some (a2_0,t12,t15.2.1,t15.2.2.1,t15.2.2.2)))else(some (a2_0,t12,t15.2.1,t15.2.2.1,t15.2.2.2)))):=by kernel_rfl
noncomputable def Zbj.con:Con:=⟨Zbj.fn.ins,Zbj.fn.outs,Int×(List Int)×(List Int)×Int×Int,fun x=>Zbj.f x.1 x.2.1 x.2.2.1 x.2.2.2.1 x.2.2.2.2.1 x.2.2.2.2.2.1 x.2.2.2.2.2.2.1,fun r=>((r.1,r.2.1,()),(r.2.2.1,r.2.2.2.1,r.2.2.2.2,()))⟩
theorem Zbj.valid:Valid Tryz.prog 202 Zbj.con:=fnV Zbj.fn Zbj.E Zbj.enc ⟨ttOk,(Zf Zal.valid (Zf ZK.valid (Zf ZaE.valid Zap)))⟩ Tryz.func202
end Go.Proofs.YthmcpmnhdbeahaaGreat.P
namespace Go.Proofs.YthmcpmnhdbeahaaGreat.P
open Go Go.RowKit Go.Proofs.YthmcpmnhdbeahaaGreat.D
noncomputable def Zan.E:Env:={ tt:=TT,con:=[(100,ZaN.con),(195,Zbc.con),(174,ZK.con),(196,Zbd.con),(109,Zs.con),(175,ZaE.con),(197,ZaR.con),(198,Za8.con),(199,ZG.con),(200,Zas.con),(171,Zbi.con),(202,Zbj.con),(201,Za2.con)],frz:=[16,21,27,33,35,103],rows:=[],live:=[(11,[2,3,4,5,6,7,9,10,11])],n:=105,pin:=0,nils:=[] }
noncomputable def Zan.fn:D.Fn:={ body:=Tryz.f130.body.getD .skip,res:=Tryz.f130.results.toList,ins:=[.one (.v (.sl 5 (.int .u8)))],outs:=[.agg [.v (.sl 27 (.sl 2 (.int .i64)))],.agg [.v (.int .i64),.v (.sl 2 (.int .i64))],.agg [.v (.int .i64),.own 2 true (.int .i64)]] }
def Zan.enc (y:lsd (flats Zan.fn.outs)×lsd (ios Zan.fn.ins)):(List (List Int))×Int×(List Int)×Int×(List Int):=(y.1.1,y.1.2.1,y.1.2.2.1,y.1.2.2.2.1,y.1.2.2.2.2.1)
noncomputable def Zan.f (l0:List Int):Option ((List (List Int))×Int×(List Int)×Int×(List Int)):=denF Zan.E Zan.fn Zan.enc (l0,())
noncomputable def Zan.l0 (x11:Int) (b1_0:Int) (b2_0:Int) (b3_0:List Int) (b3_1:Int) (b3_2:Int) (b4_0:List (List Int)) (b5_0:Int) (b5_1:List Int) (r6:List (List Int)) (r7:List Int):Option ((List (List Int))×Int×(List Int)×Int×(List Int)):=denAt Zan.E Zan.fn Zan.enc [1,1,1,1,1,1,1,1,0,1,0] { fr:=[(2,.lf (.box 0 0)),(3,.lf (.box 1 0)),(4,.lf (.box 2 0)),(5,.lf (.box 3 0)),(6,.lf (.box 4 0)),(7,.lf (.box 5 0)),(9,.lf (.own 6)),(10,.lf (.own 7)),(11,.lf (.int .i64 x11))],ob:=[(0,.box 26 false [.nil]),(1,.box 29 false [.int .i64 b1_0,.nil]),(2,.box 56 false [.int .i64 b2_0,.nil]),(3,.box 143 false [.sl (.int .u8) b3_0,.int .i64 b3_1,.int .u64 b3_2]),(4,.box 26 false [.sl (.sl 2 (.int .i64)) b4_0]),(5,.box 29 false [.int .i64 b5_0,.sl (.int .i64) b5_1]),(6,.row 27 false (.sl 2 (.int .i64)) r6),(7,.row 2 true (.int .i64) r7)],nx:=8 }
theorem Zan.f_eq (l0:List Int):Zan.f l0=(ZaN.f l0).bind fun t14=>(Zbc.f t14.1 t14.2.1 t14.2.2).bind fun t16=>(ZK.f t16.2.1 t16.2.2.1 t16.2.2.2 3).bind fun t18=>if t18.1=0 then((Zbd.f t18.2.1 t18.2.2.1 t18.2.2.2).bind fun t21=>(Zs.f t21.1).bind fun t23=>if t23=true then((ZaE.f t21.2.1 t21.2.2.1 t21.2.2.2 ([2,2,2,3,4,4,8,12]:List Int)).bind fun t34=>(ZaR.f t34.2.1 t34.2.2.1 t34.2.2.2 t21.1 t34.1).bind fun t35=>(Za8.f t21.1 t35.1 t35.2.1 2).bind fun t39=>(ZG.f t21.1 2).bind fun t43=>if t43=t43 then(if 0≤t43 then(if(t43:Int).toNat≤17592186044416 then(Zan.l0 0 0 0 t35.2.2.1 t35.2.2.2.1 t35.2.2.2.2 t21.1 t35.1 t35.2.1 t39.2 (List.replicate (t43:Int).toNat (0:Int)))else none)else none)else none)else(some (t21.1,2,([1]:List Int),2,([]:List Int))))else((Zs.f t16.1).bind fun t23=>if t23=true then((ZaE.f t18.2.1 t18.2.2.1 t18.2.2.2 ([2,2,2,3,4,4,8,12]:List Int)).bind fun t34=>(ZaR.f t34.2.1 t34.2.2.1 t34.2.2.2 t16.1 t34.1).bind fun t35=>(Za8.f t16.1 t35.1 t35.2.1 2).bind fun t39=>(ZG.f t16.1 2).bind fun t43=>if t43=t43 then(if 0≤t43 then(if(t43:Int).toNat≤17592186044416 then(Zan.l0 0 0 0 t35.2.2.1 t35.2.2.2.1 t35.2.2.2.2 t16.1 t35.1 t35.2.1 t39.2 (List.replicate (t43:Int).toNat (0:Int)))else none)else none)else none)else(some (t16.1,2,([1]:List Int),2,([]:List Int)))):=by kernel_rfl
theorem Zan.l0_eq (x11:Int) (b1_0:Int) (b2_0:Int) (b3_0:List Int) (b3_1:Int) (b3_2:Int) (b4_0:List (List Int)) (b5_0:Int) (b5_1:List Int) (r6:List (List Int)) (r7:List Int):Zan.l0 x11 b1_0 b2_0 b3_0 b3_1 b3_2 b4_0 b5_0 b5_1 r6 r7=if x11 < (r6.length:Int)then(if 0≤x11 then(if x11 < (r6.length:Int)then(if 0≤x11 then(if x11 < (r6.length:Int)then(if((row r6 x11).length:Int) > 0 then(if 0≤x11 then(if x11 < (r6.length:Int)then(if 0≤x11 then(if x11 < (r6.length:Int)then((ZK.f b3_0 b3_1 b3_2 b5_0).bind fun t65=>(ZK.f t65.2.1 t65.2.2.1 t65.2.2.2 2).bind fun t67=>(Zas.f r7 (row r6 x11) 1 (wrapI (t65.1*t67.1)) b5_0).bind fun t71=>Zan.l0 (wrapI (x11+1)) b1_0 b2_0 t67.2.1 t67.2.2.1 t67.2.2.2 b4_0 b5_0 b5_1 r6 t71)else none)else none)else none)else none)else(Zan.l0 (wrapI (x11+1)) b1_0 b2_0 b3_0 b3_1 b3_2 b4_0 b5_0 b5_1 r6 r7))else none)else none)else none)else none)else((ZK.f b3_0 b3_1 b3_2 20).bind fun t75=>if t75.1=0 then(if(r7.length:Int) > 0 then((ZK.f t75.2.1 t75.2.2.1 t75.2.2.2 (r7.length:Int)).bind fun t85=>(ZK.f t85.2.1 t85.2.2.1 t85.2.2.2 b5_0).bind fun t89=>if 0≤t85.1 then(if t85.1 < (r7.length:Int)then(if 0≤t85.1 then(if t85.1 < (r7.length:Int)then((Zbi.f t89.2.1 t89.2.2.1 t89.2.2.2 b5_0 b5_1).bind fun t100=>(Zbj.f t100.2.2.1 t100.2.2.2.1 t100.2.2.2.2 b5_0 b5_1 2 (r7.set (t85.1:Int).toNat t89.1)).bind fun t104=>some (b4_0,t100.1,t100.2.1,t104.1,t104.2.1))else none)else none)else none)else none)else((Zbi.f t75.2.1 t75.2.2.1 t75.2.2.2 b5_0 b5_1).bind fun t100=>(Zbj.f t100.2.2.1 t100.2.2.2.1 t100.2.2.2.2 b5_0 b5_1 2 r7).bind fun t104=>some (b4_0,t100.1,t100.2.1,t104.1,t104.2.1)))else(if t75.1=1 then((ZK.f t75.2.1 t75.2.2.1 t75.2.2.2 3).bind fun t95=>(Za2.f b4_0 t95.1).bind fun t96=>(Zbi.f t95.2.1 t95.2.2.1 t95.2.2.2 b5_0 b5_1).bind fun t100=>(Zbj.f t100.2.2.1 t100.2.2.2.1 t100.2.2.2.2 b5_0 b5_1 t96.1 t96.2).bind fun t104=>some (b4_0,t100.1,t100.2.1,t104.1,t104.2.1))else((Zbi.f t75.2.1 t75.2.2.1 t75.2.2.2 b5_0 b5_1).bind fun t100=>(Zbj.f t100.2.2.1 t100.2.2.2.1 t100.2.2.2.2 b5_0 b5_1 2 r7).bind fun t104=>some (b4_0,t100.1,t100.2.1,t104.1,t104.2.1)))):=(Zm _ _ _ _).trans (by kernel_rfl)
noncomputable def Zan.con:Con:=⟨Zan.fn.ins,Zan.fn.outs,(List (List Int))×Int×(List Int)×Int×(List Int),fun x=>Zan.f x.1,fun r=>((r.1,r.2.1,r.2.2.1,r.2.2.2.1,r.2.2.2.2,()),(()))⟩
theorem Zan.valid:Valid Tryz.prog 130 Zan.con:=fnV Zan.fn Zan.E Zan.enc ⟨ttOk,(Zf ZaN.valid (Zf Zbc.valid (Zf ZK.valid (Zf Zbd.valid (Zf Zs.valid (Zf ZaE.valid (Zf ZaR.valid (Zf Za8.valid (Zf ZG.valid (Zf Zas.valid (Zf Zbi.valid (Zf Zbj.valid (Zf Za2.valid Zap)))))))))))))⟩ Tryz.func130
end Go.Proofs.YthmcpmnhdbeahaaGreat.P
namespace Go.Proofs.YthmcpmnhdbeahaaGreat.P
open Go Go.RowKit Go.Proofs.YthmcpmnhdbeahaaGreat.D
noncomputable def ZP.E:Env:={ tt:=TT,con:=[(130,Zan.con)],frz:=[],rows:=[],live:=[],n:=10,pin:=0,nils:=[] }
noncomputable def ZP.fn:D.Fn:={ body:=Tryz.f49.body.getD .skip,res:=Tryz.f49.results.toList,ins:=[.one (.v (.sl 5 (.int .u8)))],outs:=[.agg [.v (.sl 27 (.sl 2 (.int .i64)))],.agg [.v (.int .i64),.v (.sl 2 (.int .i64))],.agg [.v (.int .i64),.own 2 true (.int .i64)]] }
def ZP.enc (y:lsd (flats ZP.fn.outs)×lsd (ios ZP.fn.ins)):(List (List Int))×Int×(List Int)×Int×(List Int):=(y.1.1,y.1.2.1,y.1.2.2.1,y.1.2.2.2.1,y.1.2.2.2.2.1)
noncomputable def ZP.f (l0:List Int):Option ((List (List Int))×Int×(List Int)×Int×(List Int)):=denF ZP.E ZP.fn ZP.enc (l0,())
theorem ZP.f_eq (l0:List Int):ZP.f l0=(Zan.f l0).bind fun t6=>some (t6.1,t6.2.1,t6.2.2.1,t6.2.2.2.1,t6.2.2.2.2):=by kernel_rfl
noncomputable def ZP.con:Con:=⟨ZP.fn.ins,ZP.fn.outs,(List (List Int))×Int×(List Int)×Int×(List Int),fun x=>ZP.f x.1,fun r=>((r.1,r.2.1,r.2.2.1,r.2.2.2.1,r.2.2.2.2,()),(()))⟩
theorem ZP.valid:Valid Tryz.prog 49 ZP.con:=fnV ZP.fn ZP.E ZP.enc ⟨ttOk,(Zf Zan.valid Zap)⟩ Tryz.func49
end Go.Proofs.YthmcpmnhdbeahaaGreat.P
namespace Go.Proofs.YthmcpmnhdbeahaaGreat.P
open Go Go.RowKit Go.Proofs.YthmcpmnhdbeahaaGreat.D
noncomputable def ZaZ.E:Env:={ tt:=TT,con:=[],frz:=[],rows:=[],live:=[(2,[0,7,8,9])],n:=21,pin:=0,nils:=[] }
noncomputable def ZaZ.fn:D.Fn:={ body:=Tryz.f93.body.getD .skip,res:=Tryz.f93.results.toList,ins:=[.one (.v (.int .i64)),.one (.v (.sl 2 (.int .i64)))],outs:=[.one (.v .bool)] }
def ZaZ.enc (y:lsd (flats ZaZ.fn.outs)×lsd (ios ZaZ.fn.ins)):Bool:=y.1.1
noncomputable def ZaZ.f (a0:Int) (l1:List Int):Option Bool:=denF ZaZ.E ZaZ.fn ZaZ.enc (a0,l1,())
noncomputable def ZaZ.l0 (x0:Int) (x7:List Int) (x8:Int) (x9:Int):Option Bool:=denAt ZaZ.E ZaZ.fn ZaZ.enc [1,0,1,0] { fr:=[(0,.lf (.int .i64 x0)),(7,.lf (.sl (.int .i64) x7)),(8,.lf (.int .i64 x8)),(9,.lf (.int .i64 x9))],ob:=[],nx:=0 }
theorem ZaZ.f_eq (a0:Int) (l1:List Int):ZaZ.f a0 l1=ZaZ.l0 a0 l1 (l1.length:Int) 0:=by kernel_rfl
theorem ZaZ.l0_eq (x0:Int) (x7:List Int) (x8:Int) (x9:Int):ZaZ.l0 x0 x7 x8 x9=if x9 < x8 then(if 0≤x9 then(if x9 < (x7.length:Int)then(if(rd x7 x9) < 0 then(some false)else(if(rd x7 x9)≥x0 then(some false)else(ZaZ.l0 x0 x7 x8 (wrapI (x9+1)))))else none)else none)else(some true):=(Zm _ _ _ _).trans (by kernel_rfl)
noncomputable def ZaZ.con:Con:=⟨ZaZ.fn.ins,ZaZ.fn.outs,Bool,fun x=>ZaZ.f x.1 x.2.1,fun r=>((r,()),(()))⟩
theorem ZaZ.valid:Valid Tryz.prog 93 ZaZ.con:=fnV ZaZ.fn ZaZ.E ZaZ.enc ⟨ttOk,Zap⟩ Tryz.func93
end Go.Proofs.YthmcpmnhdbeahaaGreat.P
namespace Go.Proofs.YthmcpmnhdbeahaaGreat.P
open Go Go.RowKit Go.Proofs.YthmcpmnhdbeahaaGreat.D
noncomputable def ZS.E:Env:={ tt:=TT,con:=[],frz:=[],rows:=[],live:=[],n:=6,pin:=0,nils:=[] }
noncomputable def ZS.fn:D.Fn:={ body:=Tryz.f139.body.getD .skip,res:=Tryz.f139.results.toList,ins:=[.agg [.v (.sl 27 (.sl 2 (.int .i64)))]],outs:=[.one (.v (.int .i64))] }
def ZS.enc (y:lsd (flats ZS.fn.outs)×lsd (ios ZS.fn.ins)):Int:=y.1.1
noncomputable def ZS.f (l0_0:List (List Int)):Option Int:=denF ZS.E ZS.fn ZS.enc (l0_0,())
theorem ZS.f_eq (l0_0:List (List Int)):ZS.f l0_0=some (l0_0.length:Int):=by kernel_rfl
noncomputable def ZS.con:Con:=⟨ZS.fn.ins,ZS.fn.outs,Int,fun x=>ZS.f x.1,fun r=>((r,()),(()))⟩
theorem ZS.valid:Valid Tryz.prog 139 ZS.con:=fnV ZS.fn ZS.E ZS.enc ⟨ttOk,Zap⟩ Tryz.func139
end Go.Proofs.YthmcpmnhdbeahaaGreat.P
namespace Go.Proofs.YthmcpmnhdbeahaaGreat.P
open Go Go.RowKit Go.Proofs.YthmcpmnhdbeahaaGreat.D
noncomputable def ZB.E:Env:={ tt:=TT,con:=[],frz:=[],rows:=[],live:=[(2,[0,1,7,8])],n:=19,pin:=0,nils:=[] }
noncomputable def ZB.fn:D.Fn:={ body:=Tryz.f173.body.getD .skip,res:=Tryz.f173.results.toList,ins:=[.one (.v (.sl 2 (.int .i64))),.one (.v (.int .i64))],outs:=[.one (.v (.int .i64))] }
def ZB.enc (y:lsd (flats ZB.fn.outs)×lsd (ios ZB.fn.ins)):Int:=y.1.1
noncomputable def ZB.f (l0:List Int) (a1:Int):Option Int:=denF ZB.E ZB.fn ZB.enc (l0,a1,())
noncomputable def ZB.l0 (x0:List Int) (x1:Int) (x7:Int) (x8:Int):Option Int:=denAt ZB.E ZB.fn ZB.enc [1,0,1,0] { fr:=[(0,.lf (.sl (.int .i64) x0)),(1,.lf (.int .i64 x1)),(7,.lf (.int .i64 x7)),(8,.lf (.int .i64 x8))],ob:=[],nx:=0 }
theorem ZB.f_eq (l0:List Int) (a1:Int):ZB.f l0 a1=ZB.l0 l0 a1 (l0.length:Int) 0:=by kernel_rfl
theorem ZB.l0_eq (x0:List Int) (x1:Int) (x7:Int) (x8:Int):ZB.l0 x0 x1 x7 x8=if x8 < x7 then(if 0≤x8 then(if x8 < (x0.length:Int)then(if x1=(rd x0 x8)then(some x8)else(ZB.l0 x0 x1 x7 (wrapI (x8+1))))else none)else none)else(some (-1)):=(Zm _ _ _ _).trans (by kernel_rfl)
noncomputable def ZB.con:Con:=⟨ZB.fn.ins,ZB.fn.outs,Int,fun x=>ZB.f x.1 x.2.1,fun r=>((r,()),(()))⟩
theorem ZB.valid:Valid Tryz.prog 173 ZB.con:=fnV ZB.fn ZB.E ZB.enc ⟨ttOk,Zap⟩ Tryz.func173
end Go.Proofs.YthmcpmnhdbeahaaGreat.P
namespace Go.Proofs.YthmcpmnhdbeahaaGreat.P
open Go Go.RowKit Go.Proofs.YthmcpmnhdbeahaaGreat.D
noncomputable def ZW.E:Env:={ tt:=TT,con:=[(173,ZB.con)],frz:=[],rows:=[],live:=[],n:=9,pin:=0,nils:=[] }
noncomputable def ZW.fn:D.Fn:={ body:=Tryz.f190.body.getD .skip,res:=Tryz.f190.results.toList,ins:=[.one (.v (.sl 2 (.int .i64))),.one (.v (.int .i64))],outs:=[.one (.v .bool)] }
def ZW.enc (y:lsd (flats ZW.fn.outs)×lsd (ios ZW.fn.ins)):Bool:=y.1.1
noncomputable def ZW.f (l0:List Int) (a1:Int):Option Bool:=denF ZW.E ZW.fn ZW.enc (l0,a1,())
theorem ZW.f_eq (l0:List Int) (a1:Int):ZW.f l0 a1=(ZB.f l0 a1).bind fun t7=>some (decide (t7≥0)):=by kernel_rfl
noncomputable def ZW.con:Con:=⟨ZW.fn.ins,ZW.fn.outs,Bool,fun x=>ZW.f x.1 x.2.1,fun r=>((r,()),(()))⟩
theorem ZW.valid:Valid Tryz.prog 190 ZW.con:=fnV ZW.fn ZW.E ZW.enc ⟨ttOk,(Zf ZB.valid Zap)⟩ Tryz.func190
end Go.Proofs.YthmcpmnhdbeahaaGreat.P
namespace Go.Proofs.YthmcpmnhdbeahaaGreat.P
open Go Go.RowKit Go.Proofs.YthmcpmnhdbeahaaGreat.D
noncomputable def Zt.E:Env:={ tt:=TT,con:=[(139,ZS.con),(93,ZaZ.con),(190,ZW.con)],frz:=[],rows:=[],live:=[(5,[1,3,18,19,20]),(11,[1,3,35,36]),(16,[1,3,6,35,36,68,69]),(19,[1,3,6,7,35,36,68,69,72,73])],n:=110,pin:=0,nils:=[] }
noncomputable def Zt.fn:D.Fn:={ body:=Tryz.f162.body.getD .skip,res:=Tryz.f162.results.toList,ins:=[.agg [.v (.sl 27 (.sl 2 (.int .i64)))]],outs:=[.one (.v .bool)] }
def Zt.enc (y:lsd (flats Zt.fn.outs)×lsd (ios Zt.fn.ins)):Bool:=y.1.1
noncomputable def Zt.f (l0_0:List (List Int)):Option Bool:=denF Zt.E Zt.fn Zt.enc (l0_0,())
noncomputable def Zt.l0 (x3:Int) (x18:List (List Int)) (x19:Int) (x20:Int) (b0_0:List (List Int)):Option Bool:=denAt Zt.E Zt.fn Zt.enc [1,1,1,0,1,0] { fr:=[(1,.lf (.box 0 0)),(3,.lf (.int .i64 x3)),(18,.lf (.sl (.sl 2 (.int .i64)) x18)),(19,.lf (.int .i64 x19)),(20,.lf (.int .i64 x20))],ob:=[(0,.box 26 false [.sl (.sl 2 (.int .i64)) b0_0])],nx:=1 }
noncomputable def Zt.l1 (x3:Int) (x35:Int) (x36:Int) (b0_0:List (List Int)):Option Bool:=denAt Zt.E Zt.fn Zt.enc [1,1,1,1,0,1,0] { fr:=[(1,.lf (.box 0 0)),(3,.lf (.int .i64 x3)),(35,.lf (.int .i64 x35)),(36,.lf (.int .i64 x36))],ob:=[(0,.box 26 false [.sl (.sl 2 (.int .i64)) b0_0])],nx:=1 }
noncomputable def Zt.l2 (x3:Int) (x6:Int) (x35:Int) (x36:Int) (x68:Int) (x69:Int) (b0_0:List (List Int)):Option Bool:=denAt Zt.E Zt.fn Zt.enc [1,1,1,1,0,1,0,0,1,1,0,0,1,1,1,0] { fr:=[(1,.lf (.box 0 0)),(3,.lf (.int .i64 x3)),(6,.lf (.int .i64 x6)),(35,.lf (.int .i64 x35)),(36,.lf (.int .i64 x36)),(68,.lf (.int .i64 x68)),(69,.lf (.int .i64 x69))],ob:=[(0,.box 26 false [.sl (.sl 2 (.int .i64)) b0_0])],nx:=1 }
noncomputable def Zt.l3 (x3:Int) (x6:Int) (x7:Int) (x35:Int) (x36:Int) (x68:Int) (x69:Int) (x72:Int) (x73:Int) (b0_0:List (List Int)):Option Bool:=denAt Zt.E Zt.fn Zt.enc [1,1,1,1,0,1,0,0,1,1,0,0,1,1,1,0,0,1,1,0,0,1,1,0] { fr:=[(1,.lf (.box 0 0)),(3,.lf (.int .i64 x3)),(6,.lf (.int .i64 x6)),(7,.lf (.int .i64 x7)),(35,.lf (.int .i64 x35)),(36,.lf (.int .i64 x36)),(68,.lf (.int .i64 x68)),(69,.lf (.int .i64 x69)),(72,.lf (.int .i64 x72)),(73,.lf (.int .i64 x73))],ob:=[(0,.box 26 false [.sl (.sl 2 (.int .i64)) b0_0])],nx:=1 }
theorem Zt.f_eq (l0_0:List (List Int)):Zt.f l0_0=(ZS.f l0_0).bind fun t10=>if t10 < 1 then(some false)else(if t10 > 8 then(some false)else(Zt.l0 t10 l0_0 (l0_0.length:Int) 0 l0_0)):=by kernel_rfl
theorem Zt.l0_eq (x3:Int) (x18:List (List Int)) (x19:Int) (x20:Int) (b0_0:List (List Int)):Zt.l0 x3 x18 x19 x20 b0_0=if x20 < x19 then(if 0≤x20 then(if x20 < (x18.length:Int)then(if((row x18 x20).length:Int)=x3 then((ZaZ.f x3 (row x18 x20)).bind fun t31=>if t31=true then(Zt.l0 x3 x18 x19 (wrapI (x20+1)) b0_0)else(some false))else(some false))else none)else none)else(Zt.l1 x3 x3 0 b0_0):=(Zm _ _ _ _).trans (by kernel_rfl)
theorem Zt.l1_eq (x3:Int) (x35:Int) (x36:Int) (b0_0:List (List Int)):Zt.l1 x3 x35 x36 b0_0=if x36 < x35 then(if 0 < (b0_0.length:Int)then(if 0≤x36 then(if x36 < ((row b0_0 0).length:Int)then(if(T b0_0 0 x36)=x36 then(if 0≤x36 then(if x36 < (b0_0.length:Int)then(if 0 < ((row b0_0 x36).length:Int)then(if(T b0_0 x36 0)=x36 then(if 0≤x36 then(if x36 < (b0_0.length:Int)then((ZW.f (row b0_0 x36) 0).bind fun t65=>if t65=true then(Zt.l2 x3 x36 x35 x36 x3 0 b0_0)else(some false))else none)else none)else(some false))else none)else none)else none)else(some false))else none)else none)else none)else(some true):=(Zm _ _ _ _).trans (by kernel_rfl)
theorem Zt.l2_eq (x3:Int) (x6:Int) (x35:Int) (x36:Int) (x68:Int) (x69:Int) (b0_0:List (List Int)):Zt.l2 x3 x6 x35 x36 x68 x69 b0_0=if x69 < x68 then(Zt.l3 x3 x6 x69 x35 x36 x68 x69 x3 0 b0_0)else(Zt.l1 x3 x35 (wrapI (x36+1)) b0_0):=(Zm _ _ _ _).trans (by kernel_rfl)
theorem Zt.l3_eq (x3:Int) (x6:Int) (x7:Int) (x35:Int) (x36:Int) (x68:Int) (x69:Int) (x72:Int) (x73:Int) (b0_0:List (List Int)):Zt.l3 x3 x6 x7 x35 x36 x68 x69 x72 x73 b0_0=if x73 < x72 then(if 0≤x6 then(if x6 < (b0_0.length:Int)then(if 0≤x7 then(if x7 < ((row b0_0 x6).length:Int)then(if 0≤T b0_0 x6 x7 then(if T b0_0 x6 x7 < (b0_0.length:Int)then(if 0≤x73 then(if x73 < ((row b0_0 (T b0_0 x6 x7)).length:Int)then(if 0≤x6 then(if x6 < (b0_0.length:Int)then(if 0≤x7 then(if x7 < (b0_0.length:Int)then(if 0≤x73 then(if x73 < ((row b0_0 x7).length:Int)then(if 0≤T b0_0 x7 x73 then(if T b0_0 x7 x73 < ((row b0_0 x6).length:Int)then(if(T b0_0 (T b0_0 x6 x7) x73)=(T b0_0 x6 (T b0_0 x7 x73))then(Zt.l3 x3 x6 x7 x35 x36 x68 x69 x72 (wrapI (x73+1)) b0_0)else(some false))else none)else none)else none)else none)else none)else none)else none)else none)else none)else none)else none)else none)else none)else none)else none)else none)else(Zt.l2 x3 x6 x35 x36 x68 (wrapI (x69+1)) b0_0):=(Zm _ _ _ _).trans (by kernel_rfl)
noncomputable def Zt.con:Con:=⟨Zt.fn.ins,Zt.fn.outs,Bool,fun x=>Zt.f x.1,fun r=>((r,()),(()))⟩
theorem Zt.valid:Valid Tryz.prog 162 Zt.con:=fnV Zt.fn Zt.E Zt.enc ⟨ttOk,(Zf ZS.valid (Zf ZaZ.valid (Zf ZW.valid Zap)))⟩ Tryz.func162
end Go.Proofs.YthmcpmnhdbeahaaGreat.P
namespace Go.Proofs.YthmcpmnhdbeahaaGreat.P
open Go Go.RowKit Go.Proofs.YthmcpmnhdbeahaaGreat.D
noncomputable def ZaY.E:Env:={ tt:=TT,con:=[],frz:=[],rows:=[],live:=[],n:=9,pin:=0,nils:=[] }
noncomputable def ZaY.fn:D.Fn:={ body:=Tryz.f163.body.getD .skip,res:=Tryz.f163.results.toList,ins:=[.one (.v (.int .i64))],outs:=[.one (.v .bool)] }
def ZaY.enc (y:lsd (flats ZaY.fn.outs)×lsd (ios ZaY.fn.ins)):Bool:=y.1.1
noncomputable def ZaY.f (a0:Int):Option Bool:=denF ZaY.E ZaY.fn ZaY.enc (a0,())
theorem ZaY.f_eq (a0:Int):ZaY.f a0=if a0≥2 then(some (decide (a0≤12)))else(some false):=by kernel_rfl
noncomputable def ZaY.con:Con:=⟨ZaY.fn.ins,ZaY.fn.outs,Bool,fun x=>ZaY.f x.1,fun r=>((r,()),(()))⟩
theorem ZaY.valid:Valid Tryz.prog 163 ZaY.con:=fnV ZaY.fn ZaY.E ZaY.enc ⟨ttOk,Zap⟩ Tryz.func163
end Go.Proofs.YthmcpmnhdbeahaaGreat.P
namespace Go.Proofs.YthmcpmnhdbeahaaGreat.P
open Go Go.RowKit Go.Proofs.YthmcpmnhdbeahaaGreat.D
noncomputable def Zo.E:Env:={ tt:=TT,con:=[],frz:=[],rows:=[],live:=[(3,[2,5,8,9,10])],n:=24,pin:=0,nils:=[] }
noncomputable def Zo.fn:D.Fn:={ body:=Tryz.f172.body.getD .skip,res:=Tryz.f172.results.toList,ins:=[.agg [.v (.sl 27 (.sl 2 (.int .i64)))],.one (.v (.sl 2 (.int .i64)))],outs:=[.one (.v (.int .i64))] }
def Zo.enc (y:lsd (flats Zo.fn.outs)×lsd (ios Zo.fn.ins)):Int:=y.1.1
noncomputable def Zo.f (l0_0:List (List Int)) (l1:List Int):Option Int:=denF Zo.E Zo.fn Zo.enc (l0_0,l1,())
noncomputable def Zo.l0 (x5:Int) (x8:List Int) (x9:Int) (x10:Int) (b0_0:List (List Int)):Option Int:=denAt Zo.E Zo.fn Zo.enc [1,1,0,1,0] { fr:=[(2,.lf (.box 0 0)),(5,.lf (.int .i64 x5)),(8,.lf (.sl (.int .i64) x8)),(9,.lf (.int .i64 x9)),(10,.lf (.int .i64 x10))],ob:=[(0,.box 26 false [.sl (.sl 2 (.int .i64)) b0_0])],nx:=1 }
theorem Zo.f_eq (l0_0:List (List Int)) (l1:List Int):Zo.f l0_0 l1=Zo.l0 0 l1 (l1.length:Int) 0 l0_0:=by kernel_rfl
theorem Zo.l0_eq (x5:Int) (x8:List Int) (x9:Int) (x10:Int) (b0_0:List (List Int)):Zo.l0 x5 x8 x9 x10 b0_0=if x10 < x9 then(if 0≤x10 then(if x10 < (x8.length:Int)then(if 0≤x5 then(if x5 < (b0_0.length:Int)then(if 0≤rd x8 x10 then(if rd x8 x10 < ((row b0_0 x5).length:Int)then(Zo.l0 (T b0_0 x5 (rd x8 x10)) x8 x9 (wrapI (x10+1)) b0_0)else none)else none)else none)else none)else none)else none)else(some x5):=(Zm _ _ _ _).trans (by kernel_rfl)
noncomputable def Zo.con:Con:=⟨Zo.fn.ins,Zo.fn.outs,Int,fun x=>Zo.f x.1 x.2.1,fun r=>((r,()),(()))⟩
theorem Zo.valid:Valid Tryz.prog 172 Zo.con:=fnV Zo.fn Zo.E Zo.enc ⟨ttOk,Zap⟩ Tryz.func172
end Go.Proofs.YthmcpmnhdbeahaaGreat.P
namespace Go.Proofs.YthmcpmnhdbeahaaGreat.P
open Go Go.RowKit Go.Proofs.YthmcpmnhdbeahaaGreat.D
noncomputable def Zbs.E:Env:={ tt:=TT,con:=[],frz:=[],rows:=[],live:=[(1,[0,1])],n:=12,pin:=0,nils:=[] }
noncomputable def Zbs.fn:D.Fn:={ body:=Tryz.f152.body.getD .skip,res:=Tryz.f152.results.toList,ins:=[.one (.v (.int .i64)),.one (.v (.int .i64))],outs:=[.one (.v (.int .i64))] }
def Zbs.enc (y:lsd (flats Zbs.fn.outs)×lsd (ios Zbs.fn.ins)):Int:=y.1.1
noncomputable def Zbs.f (a0:Int) (a1:Int):Option Int:=denF Zbs.E Zbs.fn Zbs.enc (a0,a1,())
noncomputable def Zbs.l0 (x0:Int) (x1:Int):Option Int:=denAt Zbs.E Zbs.fn Zbs.enc [1,0,0] { fr:=[(0,.lf (.int .i64 x0)),(1,.lf (.int .i64 x1))],ob:=[],nx:=0 }
theorem Zbs.f_eq (a0:Int) (a1:Int):Zbs.f a0 a1=Zbs.l0 a0 a1:=by kernel_rfl
theorem Zbs.l0_eq (x0:Int) (x1:Int):Zbs.l0 x0 x1=if x1=0 then(some x0)else(if x1=0 then none else(Zbs.l0 x1 ((x0:Int).tmod x1))):=(Zm _ _ _ _).trans (by kernel_rfl)
noncomputable def Zbs.con:Con:=⟨Zbs.fn.ins,Zbs.fn.outs,Int,fun x=>Zbs.f x.1 x.2.1,fun r=>((r,()),(()))⟩
theorem Zbs.valid:Valid Tryz.prog 152 Zbs.con:=fnV Zbs.fn Zbs.E Zbs.enc ⟨ttOk,Zap⟩ Tryz.func152
end Go.Proofs.YthmcpmnhdbeahaaGreat.P
namespace Go.Proofs.YthmcpmnhdbeahaaGreat.P
open Go Go.RowKit Go.Proofs.YthmcpmnhdbeahaaGreat.D
noncomputable def Zbp.E:Env:={ tt:=TT,con:=[(152,Zbs.con)],frz:=[],rows:=[],live:=[],n:=18,pin:=0,nils:=[] }
noncomputable def Zbp.fn:D.Fn:={ body:=Tryz.f283.body.getD .skip,res:=Tryz.f283.results.toList,ins:=[.one (.v (.int .i64)),.one (.v (.int .i64))],outs:=[.one (.v .bool)] }
def Zbp.enc (y:lsd (flats Zbp.fn.outs)×lsd (ios Zbp.fn.ins)):Bool:=y.1.1
noncomputable def Zbp.f (a0:Int) (a1:Int):Option Bool:=denF Zbp.E Zbp.fn Zbp.enc (a0,a1,())
theorem Zbp.f_eq (a0:Int) (a1:Int):Zbp.f a0 a1=if a1≥1 then(if a1 < a0 then((Zbs.f a0 a1).bind fun t15=>some (decide (t15=1)))else(some false))else(some false):=by kernel_rfl
noncomputable def Zbp.con:Con:=⟨Zbp.fn.ins,Zbp.fn.outs,Bool,fun x=>Zbp.f x.1 x.2.1,fun r=>((r,()),(()))⟩
theorem Zbp.valid:Valid Tryz.prog 283 Zbp.con:=fnV Zbp.fn Zbp.E Zbp.enc ⟨ttOk,(Zf Zbs.valid Zap)⟩ Tryz.func283
end Go.Proofs.YthmcpmnhdbeahaaGreat.P
namespace Go.Proofs.YthmcpmnhdbeahaaGreat.P
open Go Go.RowKit Go.Proofs.YthmcpmnhdbeahaaGreat.D
noncomputable def ZD.E:Env:={ tt:=TT,con:=[(163,ZaY.con),(139,ZS.con),(283,Zbp.con),(172,Zo.con)],frz:=[],rows:=[],live:=[(4,[2,3,29,30,31]),(10,[2,3,42,43]),(13,[2,3,7,42,43,47,48])],n:=77,pin:=0,nils:=[] }
noncomputable def ZD.fn:D.Fn:={ body:=Tryz.f246.body.getD .skip,res:=Tryz.f246.results.toList,ins:=[.agg [.v (.sl 27 (.sl 2 (.int .i64)))],.agg [.v (.int .i64),.v (.sl 2 (.int .i64))]],outs:=[.one (.v .bool)] }
def ZD.enc (y:lsd (flats ZD.fn.outs)×lsd (ios ZD.fn.ins)):Bool:=y.1.1
noncomputable def ZD.f (l0_0:List (List Int)) (a1_0:Int) (l1_1:List Int):Option Bool:=denF ZD.E ZD.fn ZD.enc (l0_0,a1_0,l1_1,())
noncomputable def ZD.l0 (x29:List Int) (x30:Int) (x31:Int) (b0_0:List (List Int)) (b1_0:Int) (b1_1:List Int):Option Bool:=denAt ZD.E ZD.fn ZD.enc [1,1,0,1,0] { fr:=[(2,.lf (.box 0 0)),(3,.lf (.box 1 0)),(29,.lf (.sl (.int .i64) x29)),(30,.lf (.int .i64 x30)),(31,.lf (.int .i64 x31))],ob:=[(0,.box 26 false [.sl (.sl 2 (.int .i64)) b0_0]),(1,.box 29 false [.int .i64 b1_0,.sl (.int .i64) b1_1])],nx:=2 }
noncomputable def ZD.l1 (x42:Int) (x43:Int) (b0_0:List (List Int)) (b1_0:Int) (b1_1:List Int):Option Bool:=denAt ZD.E ZD.fn ZD.enc [1,1,1,0,1,0] { fr:=[(2,.lf (.box 0 0)),(3,.lf (.box 1 0)),(42,.lf (.int .i64 x42)),(43,.lf (.int .i64 x43))],ob:=[(0,.box 26 false [.sl (.sl 2 (.int .i64)) b0_0]),(1,.box 29 false [.int .i64 b1_0,.sl (.int .i64) b1_1])],nx:=2 }
noncomputable def ZD.l2 (x7:Int) (x42:Int) (x43:Int) (x47:Int) (x48:Int) (b0_0:List (List Int)) (b1_0:Int) (b1_1:List Int):Option Bool:=denAt ZD.E ZD.fn ZD.enc [1,1,1,0,1,0,0,1,1,0,0,1,1,0] { fr:=[(2,.lf (.box 0 0)),(3,.lf (.box 1 0)),(7,.lf (.int .i64 x7)),(42,.lf (.int .i64 x42)),(43,.lf (.int .i64 x43)),(47,.lf (.int .i64 x47)),(48,.lf (.int .i64 x48))],ob:=[(0,.box 26 false [.sl (.sl 2 (.int .i64)) b0_0]),(1,.box 29 false [.int .i64 b1_0,.sl (.int .i64) b1_1])],nx:=2 }
theorem ZD.f_eq (l0_0:List (List Int)) (a1_0:Int) (l1_1:List Int):ZD.f l0_0 a1_0 l1_1=(ZaY.f a1_0).bind fun t11=>if t11=true then((ZS.f l0_0).bind fun t18=>if(l1_1.length:Int)=t18 then(if 0 < (l1_1.length:Int)then(if(rd l1_1 0)=1 then(ZD.l0 l1_1 (l1_1.length:Int) 0 l0_0 a1_0 l1_1)else(some false))else none)else(some false))else(some false):=by kernel_rfl
theorem ZD.l0_eq (x29:List Int) (x30:Int) (x31:Int) (b0_0:List (List Int)) (b1_0:Int) (b1_1:List Int):ZD.l0 x29 x30 x31 b0_0 b1_0 b1_1=if x31 < x30 then(if 0≤x31 then(if x31 < (x29.length:Int)then((Zbp.f b1_0 (rd x29 x31)).bind fun t38=>if t38=true then(ZD.l0 x29 x30 (wrapI (x31+1)) b0_0 b1_0 b1_1)else(some false))else none)else none)else((ZS.f b0_0).bind fun t42=>ZD.l1 t42 0 b0_0 b1_0 b1_1):=(Zm _ _ _ _).trans (by kernel_rfl)
theorem ZD.l1_eq (x42:Int) (x43:Int) (b0_0:List (List Int)) (b1_0:Int) (b1_1:List Int):ZD.l1 x42 x43 b0_0 b1_0 b1_1=if x43 < x42 then((ZS.f b0_0).bind fun t47=>ZD.l2 x43 x42 x43 t47 0 b0_0 b1_0 b1_1)else(some true):=(Zm _ _ _ _).trans (by kernel_rfl)
theorem ZD.l2_eq (x7:Int) (x42:Int) (x43:Int) (x47:Int) (x48:Int) (b0_0:List (List Int)) (b1_0:Int) (b1_1:List Int):ZD.l2 x7 x42 x43 x47 x48 b0_0 b1_0 b1_1=if x48 < x47 then((Zo.f b0_0 ([x7,x48]:List Int)).bind fun t57=>if 0≤t57 then(if t57 < (b1_1.length:Int)then(if 0≤x7 then(if x7 < (b1_1.length:Int)then(if 0≤x48 then(if x48 < (b1_1.length:Int)then(if b1_0=0 then none else(if(rd b1_1 t57)=((wrapI ((rd b1_1 x7)*(rd b1_1 x48)):Int).tmod b1_0)then(ZD.l2 x7 x42 x43 x47 (wrapI (x48+1)) b0_0 b1_0 b1_1)else(some false)))else none)else none)else none)else none)else none)else none)else(ZD.l1 x42 (wrapI (x43+1)) b0_0 b1_0 b1_1):=(Zm _ _ _ _).trans (by kernel_rfl)
noncomputable def ZD.con:Con:=⟨ZD.fn.ins,ZD.fn.outs,Bool,fun x=>ZD.f x.1 x.2.1 x.2.2.1,fun r=>((r,()),(()))⟩
theorem ZD.valid:Valid Tryz.prog 246 ZD.con:=fnV ZD.fn ZD.E ZD.enc ⟨ttOk,(Zf ZaY.valid (Zf ZS.valid (Zf Zbp.valid (Zf Zo.valid Zap))))⟩ Tryz.func246
end Go.Proofs.YthmcpmnhdbeahaaGreat.P
namespace Go.Proofs.YthmcpmnhdbeahaaGreat.P
open Go Go.RowKit Go.Proofs.YthmcpmnhdbeahaaGreat.D
noncomputable def ZZ.E:Env:={ tt:=TT,con:=[(162,Zt.con),(246,ZD.con)],frz:=[],rows:=[],live:=[(2,[2,7,8,9])],n:=23,pin:=0,nils:=[] }
noncomputable def ZZ.fn:D.Fn:={ body:=Tryz.f181.body.getD .skip,res:=Tryz.f181.results.toList,ins:=[.agg [.v (.sl 27 (.sl 2 (.int .i64)))],.one (.v (.sl 29 (.pr (.int .i64) (.sl 2 (.int .i64)))))],outs:=[.one (.v .bool)] }
def ZZ.enc (y:lsd (flats ZZ.fn.outs)×lsd (ios ZZ.fn.ins)):Bool:=y.1.1
noncomputable def ZZ.f (l0_0:List (List Int)) (l1:List (Int×(List Int))):Option Bool:=denF ZZ.E ZZ.fn ZZ.enc (l0_0,l1,())
noncomputable def ZZ.l0 (x7:List (Int×(List Int))) (x8:Int) (x9:Int) (b0_0:List (List Int)):Option Bool:=denAt ZZ.E ZZ.fn ZZ.enc [1,0,1,0] { fr:=[(2,.lf (.box 0 0)),(7,.lf (.sl (.pr (.int .i64) (.sl 2 (.int .i64))) x7)),(8,.lf (.int .i64 x8)),(9,.lf (.int .i64 x9))],ob:=[(0,.box 26 false [.sl (.sl 2 (.int .i64)) b0_0])],nx:=1 }
theorem ZZ.f_eq (l0_0:List (List Int)) (l1:List (Int×(List Int))):ZZ.f l0_0 l1=ZZ.l0 l1 (l1.length:Int) 0 l0_0:=by kernel_rfl
theorem ZZ.l0_eq (x7:List (Int×(List Int))) (x8:Int) (x9:Int) (b0_0:List (List Int)):ZZ.l0 x7 x8 x9 b0_0=if x9 < x8 then(if 0≤x9 then(if x9 < (x7.length:Int)then((Zt.f b0_0).bind fun t14=>if t14=true then((ZD.f b0_0 ((Ty.rd (.pr (.int .i64) (.sl 2 (.int .i64))) x7 x9).1) ((Ty.rd (.pr (.int .i64) (.sl 2 (.int .i64))) x7 x9).2)).bind fun t19=>if t19=true then(ZZ.l0 x7 x8 (wrapI (x9+1)) b0_0)else(some false))else(some false))else none)else none)else(some true):=(Zm _ _ _ _).trans (by kernel_rfl)
noncomputable def ZZ.con:Con:=⟨ZZ.fn.ins,ZZ.fn.outs,Bool,fun x=>ZZ.f x.1 x.2.1,fun r=>((r,()),(()))⟩
theorem ZZ.valid:Valid Tryz.prog 181 ZZ.con:=fnV ZZ.fn ZZ.E ZZ.enc ⟨ttOk,(Zf Zt.valid (Zf ZD.valid Zap))⟩ Tryz.func181
end Go.Proofs.YthmcpmnhdbeahaaGreat.P
namespace Go.Proofs.YthmcpmnhdbeahaaGreat.P
open Go Go.RowKit Go.Proofs.YthmcpmnhdbeahaaGreat.D
noncomputable def Za5.E:Env:={ tt:=TT,con:=[],frz:=[],rows:=[],live:=[(3,[0,5,6,7])],n:=14,pin:=0,nils:=[] }
noncomputable def Za5.fn:D.Fn:={ body:=Tryz.f265.body.getD .skip,res:=Tryz.f265.results.toList,ins:=[.one (.v (.int .i64)),.one (.v (.int .i64))],outs:=[.one (.v (.int .i64))] }
def Za5.enc (y:lsd (flats Za5.fn.outs)×lsd (ios Za5.fn.ins)):Int:=y.1.1
noncomputable def Za5.f (a0:Int) (a1:Int):Option Int:=denF Za5.E Za5.fn Za5.enc (a0,a1,())
noncomputable def Za5.l0 (x0:Int) (x5:Int) (x6:Int) (x7:Int):Option Int:=denAt Za5.E Za5.fn Za5.enc [1,1,0,1,0] { fr:=[(0,.lf (.int .i64 x0)),(5,.lf (.int .i64 x5)),(6,.lf (.int .i64 x6)),(7,.lf (.int .i64 x7))],ob:=[],nx:=0 }
theorem Za5.f_eq (a0:Int) (a1:Int):Za5.f a0 a1=Za5.l0 a0 1 a1 0:=by kernel_rfl
theorem Za5.l0_eq (x0:Int) (x5:Int) (x6:Int) (x7:Int):Za5.l0 x0 x5 x6 x7=if x7 < x6 then(Za5.l0 x0 (wrapI (x5*x0)) x6 (wrapI (x7+1)))else(some x5):=(Zm _ _ _ _).trans (by kernel_rfl)
noncomputable def Za5.con:Con:=⟨Za5.fn.ins,Za5.fn.outs,Int,fun x=>Za5.f x.1 x.2.1,fun r=>((r,()),(()))⟩
theorem Za5.valid:Valid Tryz.prog 265 Za5.con:=fnV Za5.fn Za5.E Za5.enc ⟨ttOk,Zap⟩ Tryz.func265
end Go.Proofs.YthmcpmnhdbeahaaGreat.P
namespace Go.Proofs.YthmcpmnhdbeahaaGreat.P
open Go Go.RowKit Go.Proofs.YthmcpmnhdbeahaaGreat.D
noncomputable def ZaT.E:Env:={ tt:=TT,con:=[(139,ZS.con),(265,Za5.con)],frz:=[],rows:=[],live:=[],n:=10,pin:=0,nils:=[] }
noncomputable def ZaT.fn:D.Fn:={ body:=Tryz.f228.body.getD .skip,res:=Tryz.f228.results.toList,ins:=[.agg [.v (.sl 27 (.sl 2 (.int .i64)))],.one (.v (.int .i64))],outs:=[.one (.v (.int .i64))] }
def ZaT.enc (y:lsd (flats ZaT.fn.outs)×lsd (ios ZaT.fn.ins)):Int:=y.1.1
noncomputable def ZaT.f (l0_0:List (List Int)) (a1:Int):Option Int:=denF ZaT.E ZaT.fn ZaT.enc (l0_0,a1,())
theorem ZaT.f_eq (l0_0:List (List Int)) (a1:Int):ZaT.f l0_0 a1=(ZS.f l0_0).bind fun t6=>(Za5.f (wrapI (t6 - 1)) a1).bind fun t9=>some t9:=by kernel_rfl
noncomputable def ZaT.con:Con:=⟨ZaT.fn.ins,ZaT.fn.outs,Int,fun x=>ZaT.f x.1 x.2.1,fun r=>((r,()),(()))⟩
theorem ZaT.valid:Valid Tryz.prog 228 ZaT.con:=fnV ZaT.fn ZaT.E ZaT.enc ⟨ttOk,(Zf ZS.valid (Zf Za5.valid Zap))⟩ Tryz.func228
end Go.Proofs.YthmcpmnhdbeahaaGreat.P
namespace Go.Proofs.YthmcpmnhdbeahaaGreat.P
open Go Go.RowKit Go.Proofs.YthmcpmnhdbeahaaGreat.D
noncomputable def Za9.E:Env:={ tt:=TT,con:=[],frz:=[],rows:=[],live:=[],n:=9,pin:=0,nils:=[] }
noncomputable def Za9.fn:D.Fn:={ body:=Tryz.f248.body.getD .skip,res:=Tryz.f248.results.toList,ins:=[.one (.v (.int .i64))],outs:=[.one (.v .bool)] }
def Za9.enc (y:lsd (flats Za9.fn.outs)×lsd (ios Za9.fn.ins)):Bool:=y.1.1
noncomputable def Za9.f (a0:Int):Option Bool:=denF Za9.E Za9.fn Za9.enc (a0,())
theorem Za9.f_eq (a0:Int):Za9.f a0=if a0≥0 then(some (decide (a0≤3)))else(some false):=by kernel_rfl
noncomputable def Za9.con:Con:=⟨Za9.fn.ins,Za9.fn.outs,Bool,fun x=>Za9.f x.1,fun r=>((r,()),(()))⟩
theorem Za9.valid:Valid Tryz.prog 248 Za9.con:=fnV Za9.fn Za9.E Za9.enc ⟨ttOk,Zap⟩ Tryz.func248
end Go.Proofs.YthmcpmnhdbeahaaGreat.P
namespace Go.Proofs.YthmcpmnhdbeahaaGreat.P
open Go Go.RowKit Go.Proofs.YthmcpmnhdbeahaaGreat.D
noncomputable def ZaX.E:Env:={ tt:=TT,con:=[(248,Za9.con),(228,ZaT.con),(93,ZaZ.con)],frz:=[],rows:=[],live:=[],n:=27,pin:=0,nils:=[] }
noncomputable def ZaX.fn:D.Fn:={ body:=Tryz.f191.body.getD .skip,res:=Tryz.f191.results.toList,ins:=[.agg [.v (.sl 27 (.sl 2 (.int .i64)))],.agg [.v (.int .i64),.v (.sl 2 (.int .i64))],.agg [.v (.int .i64),.v (.sl 2 (.int .i64))]],outs:=[.one (.v .bool)] }
def ZaX.enc (y:lsd (flats ZaX.fn.outs)×lsd (ios ZaX.fn.ins)):Bool:=y.1.1
noncomputable def ZaX.f (l0_0:List (List Int)) (a1_0:Int) (l1_1:List Int) (a2_0:Int) (l2_1:List Int):Option Bool:=denF ZaX.E ZaX.fn ZaX.enc (l0_0,a1_0,l1_1,a2_0,l2_1,())
theorem ZaX.f_eq (l0_0:List (List Int)) (a1_0:Int) (l1_1:List Int) (a2_0:Int) (l2_1:List Int):ZaX.f l0_0 a1_0 l1_1 a2_0 l2_1=(Za9.f a2_0).bind fun t9=>if t9=true then((ZaT.f l0_0 a2_0).bind fun t17=>if(l2_1.length:Int)=t17 then((ZaZ.f a1_0 l2_1).bind fun t25=>some (decide (t25=true)))else(some false))else(some false):=by kernel_rfl
noncomputable def ZaX.con:Con:=⟨ZaX.fn.ins,ZaX.fn.outs,Bool,fun x=>ZaX.f x.1 x.2.1 x.2.2.1 x.2.2.2.1 x.2.2.2.2.1,fun r=>((r,()),(()))⟩
theorem ZaX.valid:Valid Tryz.prog 191 ZaX.con:=fnV ZaX.fn ZaX.E ZaX.enc ⟨ttOk,(Zf Za9.valid (Zf ZaT.valid (Zf ZaZ.valid Zap)))⟩ Tryz.func191
end Go.Proofs.YthmcpmnhdbeahaaGreat.P
namespace Go.Proofs.YthmcpmnhdbeahaaGreat.P
open Go Go.RowKit Go.Proofs.YthmcpmnhdbeahaaGreat.D
noncomputable def ZH.E:Env:={ tt:=TT,con:=[(181,ZZ.con),(191,ZaX.con)],frz:=[],rows:=[11],live:=[(4,[3,4,14,15,16])],n:=26,pin:=0,nils:=[] }
noncomputable def ZH.fn:D.Fn:={ body:=Tryz.f124.body.getD .skip,res:=Tryz.f124.results.toList,ins:=[.agg [.v (.sl 27 (.sl 2 (.int .i64)))],.agg [.v (.int .i64),.v (.sl 2 (.int .i64))],.one (.v (.sl 56 (.pr (.int .i64) (.sl 2 (.int .i64)))))],outs:=[.one (.v (.int .i64))] }
def ZH.enc (y:lsd (flats ZH.fn.outs)×lsd (ios ZH.fn.ins)):Int:=y.1.1
noncomputable def ZH.f (l0_0:List (List Int)) (a1_0:Int) (l1_1:List Int) (l2:List (Int×(List Int))):Option Int:=denF ZH.E ZH.fn ZH.enc (l0_0,a1_0,l1_1,l2,())
noncomputable def ZH.l0 (x14:List (Int×(List Int))) (x15:Int) (x16:Int) (b0_0:List (List Int)) (b1_0:Int) (b1_1:List Int):Option Int:=denAt ZH.E ZH.fn ZH.enc [1,1,0,1,0] { fr:=[(3,.lf (.box 0 0)),(4,.lf (.box 1 0)),(14,.lf (.sl (.pr (.int .i64) (.sl 2 (.int .i64))) x14)),(15,.lf (.int .i64 x15)),(16,.lf (.int .i64 x16))],ob:=[(0,.box 26 false [.sl (.sl 2 (.int .i64)) b0_0]),(1,.box 29 false [.int .i64 b1_0,.sl (.int .i64) b1_1])],nx:=2 }
theorem ZH.f_eq (l0_0:List (List Int)) (a1_0:Int) (l1_1:List Int) (l2:List (Int×(List Int))):ZH.f l0_0 a1_0 l1_1 l2=(ZZ.f l0_0 ([(a1_0,l1_1)]:List (Int×(List Int)))).bind fun t12=>if t12=true then(ZH.l0 l2 (l2.length:Int) 0 l0_0 a1_0 l1_1)else(some 1):=by kernel_rfl
theorem ZH.l0_eq (x14:List (Int×(List Int))) (x15:Int) (x16:Int) (b0_0:List (List Int)) (b1_0:Int) (b1_1:List Int):ZH.l0 x14 x15 x16 b0_0 b1_0 b1_1=if x16 < x15 then(if 0≤x16 then(if x16 < (x14.length:Int)then((ZaX.f b0_0 b1_0 b1_1 ((Ty.rd (.pr (.int .i64) (.sl 2 (.int .i64))) x14 x16).1) ((Ty.rd (.pr (.int .i64) (.sl 2 (.int .i64))) x14 x16).2)).bind fun t23=>if t23=true then(ZH.l0 x14 x15 (wrapI (x16+1)) b0_0 b1_0 b1_1)else(some 1))else none)else none)else(some 0):=(Zm _ _ _ _).trans (by kernel_rfl)
noncomputable def ZH.con:Con:=⟨ZH.fn.ins,ZH.fn.outs,Int,fun x=>ZH.f x.1 x.2.1 x.2.2.1 x.2.2.2.1,fun r=>((r,()),(()))⟩
theorem ZH.valid:Valid Tryz.prog 124 ZH.con:=fnV ZH.fn ZH.E ZH.enc ⟨ttOk,(Zf ZZ.valid (Zf ZaX.valid Zap))⟩ Tryz.func124
end Go.Proofs.YthmcpmnhdbeahaaGreat.P
namespace Go.Proofs.YthmcpmnhdbeahaaGreat.P
open Go Go.RowKit Go.Proofs.YthmcpmnhdbeahaaGreat.D
noncomputable def Zbm.E:Env:={ tt:=TT,con:=[(228,ZaT.con)],frz:=[],rows:=[],live:=[],n:=11,pin:=0,nils:=[] }
noncomputable def Zbm.fn:D.Fn:={ body:=Tryz.f211.body.getD .skip,res:=Tryz.f211.results.toList,ins:=[.agg [.v (.sl 27 (.sl 2 (.int .i64)))],.one (.v (.int .i64))],outs:=[.agg [.v (.int .i64),.own 2 true (.int .i64)]] }
def Zbm.enc (y:lsd (flats Zbm.fn.outs)×lsd (ios Zbm.fn.ins)):Int×(List Int):=(y.1.1,y.1.2.1)
noncomputable def Zbm.f (l0_0:List (List Int)) (a1:Int):Option (Int×(List Int)):=denF Zbm.E Zbm.fn Zbm.enc (l0_0,a1,())
theorem Zbm.f_eq (l0_0:List (List Int)) (a1:Int):Zbm.f l0_0 a1=(ZaT.f l0_0 a1).bind fun t8=>if t8=t8 then(if 0≤t8 then(if(t8:Int).toNat≤17592186044416 then(some (a1,List.replicate (t8:Int).toNat (0:Int)))else none)else none)else none:=by kernel_rfl
noncomputable def Zbm.con:Con:=⟨Zbm.fn.ins,Zbm.fn.outs,Int×(List Int),fun x=>Zbm.f x.1 x.2.1,fun r=>((r.1,r.2,()),(()))⟩
theorem Zbm.valid:Valid Tryz.prog 211 Zbm.con:=fnV Zbm.fn Zbm.E Zbm.enc ⟨ttOk,(Zf ZaT.valid Zap)⟩ Tryz.func211
end Go.Proofs.YthmcpmnhdbeahaaGreat.P
namespace Go.Proofs.YthmcpmnhdbeahaaGreat.P
open Go Go.RowKit Go.Proofs.YthmcpmnhdbeahaaGreat.D
noncomputable def ZaS.E:Env:={ tt:=TT,con:=[(139,ZS.con)],frz:=[],rows:=[],live:=[(3,[2,7,8,9])],n:=32,pin:=0,nils:=[] }
noncomputable def ZaS.fn:D.Fn:={ body:=Tryz.f284.body.getD .skip,res:=Tryz.f284.results.toList,ins:=[.agg [.v (.sl 27 (.sl 2 (.int .i64)))],.one (.v (.int .i64)),.one (.v (.int .i64))],outs:=[.one (.own 2 true (.int .i64))] }
def ZaS.enc (y:lsd (flats ZaS.fn.outs)×lsd (ios ZaS.fn.ins)):(List Int):=y.1.1
noncomputable def ZaS.f (l0_0:List (List Int)) (a1:Int) (a2:Int):Option (List Int):=denF ZaS.E ZaS.fn ZaS.enc (l0_0,a1,a2,())
noncomputable def ZaS.l0 (x2:Int) (x8:Int) (x9:Int) (r0:List Int):Option (List Int):=denAt ZaS.E ZaS.fn ZaS.enc [1,1,0,1,0] { fr:=[(2,.lf (.int .i64 x2)),(7,.lf (.own 0)),(8,.lf (.int .i64 x8)),(9,.lf (.int .i64 x9))],ob:=[(0,.row 2 true (.int .i64) r0)],nx:=1 }
theorem ZaS.f_eq (l0_0:List (List Int)) (a1:Int) (a2:Int):ZaS.f l0_0 a1 a2=if a1=a1 then(if 0≤a1 then(if(a1:Int).toNat≤17592186044416 then((ZS.f l0_0).bind fun t13=>ZaS.l0 a2 (wrapI (t13 - 1)) (wrapI (a1 - 1)) (List.replicate (a1:Int).toNat (0:Int)))else none)else none)else none:=by kernel_rfl
theorem ZaS.l0_eq (x2:Int) (x8:Int) (x9:Int) (r0:List Int):ZaS.l0 x2 x8 x9 r0=if x9≥0 then(if x8=0 then none else(if 0≤x9 then(if x9 < (r0.length:Int)then(if 0≤x9 then(if x9 < (r0.length:Int)then(if x8=0 then none else(ZaS.l0 (wrapI ((x2:Int).tdiv x8)) x8 (wrapI (x9 - 1)) (r0.set (x9:Int).toNat (wrapI (1+((x2:Int).tmod x8))))))else none)else none)else none)else none))else(some r0):=(Zm _ _ _ _).trans (by kernel_rfl)
noncomputable def ZaS.con:Con:=⟨ZaS.fn.ins,ZaS.fn.outs,(List Int),fun x=>ZaS.f x.1 x.2.1 x.2.2.1,fun r=>((r,()),(()))⟩
theorem ZaS.valid:Valid Tryz.prog 284 ZaS.con:=fnV ZaS.fn ZaS.E ZaS.enc ⟨ttOk,(Zf ZS.valid Zap)⟩ Tryz.func284
end Go.Proofs.YthmcpmnhdbeahaaGreat.P
namespace Go.Proofs.YthmcpmnhdbeahaaGreat.P
open Go Go.RowKit Go.Proofs.YthmcpmnhdbeahaaGreat.D
noncomputable def Zbl.E:Env:={ tt:=TT,con:=[(211,Zbm.con),(284,ZaS.con)],frz:=[],rows:=[],live:=[(3,[1,2,3,4,8,9,16,17])],n:=38,pin:=0,nils:=[] }
noncomputable def Zbl.fn:D.Fn:={ body:=Tryz.f249.body.getD .skip,res:=Tryz.f249.results.toList,ins:=[.agg [.v (.sl 27 (.sl 2 (.int .i64)))],.one (.v (.int .i64)),.one (.v (.int .i64)),.one (.fn [(.sl 2 (.int .i64))] (.int .i64))],outs:=[.agg [.v (.int .i64),.own 2 true (.int .i64)]] }
def Zbl.enc (y:lsd (flats Zbl.fn.outs)×lsd (ios Zbl.fn.ins)):Int×(List Int):=(y.1.1,y.1.2.1)
noncomputable def Zbl.f (l0_0:List (List Int)) (a1:Int) (a2:Int) (f3:(List Int)→Option Int):Option (Int×(List Int)):=denF Zbl.E Zbl.fn Zbl.enc (l0_0,a1,a2,fun x=>f3 x.1,())
noncomputable def Zbl.l0 (x1:Int) (x2:Int) (fx3:(List Int)→Option Int) (x16:Int) (x17:Int) (b0_0:List (List Int)) (b1_0:Int) (b2_0:Int) (r3:List Int):Option (Int×(List Int)):=denAt Zbl.E Zbl.fn Zbl.enc [1,1,0,1,0] { fr:=[(1,.lf (.int .i64 x1)),(2,.lf (.int .i64 x2)),(3,.lf (.fn [(.sl 2 (.int .i64))] (.int .i64) (fun x=>fx3 x.1))),(4,.lf (.box 0 0)),(8,.lf (.box 1 0)),(9,.lf (.box 2 0)),(16,.lf (.int .i64 x16)),(17,.lf (.int .i64 x17))],ob:=[(0,.box 26 false [.sl (.sl 2 (.int .i64)) b0_0]),(1,.box 56 false [.int .i64 b1_0,.nil]),(2,.box 56 false [.int .i64 b2_0,.own 3]),(3,.row 2 true (.int .i64) r3)],nx:=4 }
theorem Zbl.f_eq (l0_0:List (List Int)) (a1:Int) (a2:Int) (f3:(List Int)→Option Int):Zbl.f l0_0 a1 a2 f3=(Zbm.f l0_0 a2).bind fun t13=>Zbl.l0 a1 a2 f3 (t13.2.length:Int) 0 l0_0 0 t13.1 t13.2:=by kernel_rfl
theorem Zbl.l0_eq (x1:Int) (x2:Int) (fx3:(List Int)→Option Int) (x16:Int) (x17:Int) (b0_0:List (List Int)) (b1_0:Int) (b2_0:Int) (r3:List Int):Zbl.l0 x1 x2 fx3 x16 x17 b0_0 b1_0 b2_0 r3=if x17 < x16 then((ZaS.f b0_0 x2 x17).bind fun t27=>(fx3 t27).bind fun t28=>if x1=0 then none else(if x1=0 then none else(if 0≤x17 then(if x17 < (r3.length:Int)then(if 0≤x17 then(if x17 < (r3.length:Int)then(Zbl.l0 x1 x2 fx3 x16 (wrapI (x17+1)) b0_0 b1_0 b2_0 (r3.set (x17:Int).toNat ((wrapI (((t28:Int).tmod x1)+x1):Int).tmod x1)))else none)else none)else none)else none)))else(some (b2_0,r3)):=(Zm _ _ _ _).trans (by kernel_rfl)
noncomputable def Zbl.con:Con:=⟨Zbl.fn.ins,Zbl.fn.outs,Int×(List Int),fun x=>Zbl.f x.1 x.2.1 x.2.2.1 (fun z0=>x.2.2.2.1 (z0,())),fun r=>((r.1,r.2,()),(()))⟩
theorem Zbl.valid:Valid Tryz.prog 249 Zbl.con:=fnV Zbl.fn Zbl.E Zbl.enc ⟨ttOk,(Zf Zbm.valid (Zf ZaS.valid Zap))⟩ Tryz.func249
end Go.Proofs.YthmcpmnhdbeahaaGreat.P
namespace Go.Proofs.YthmcpmnhdbeahaaGreat.P
open Go Go.RowKit Go.Proofs.YthmcpmnhdbeahaaGreat.D
noncomputable def Zbf.E:Env:={ tt:=TT,con:=[(139,ZS.con)],frz:=[],rows:=[],live:=[(3,[2,5,8,9,10])],n:=26,pin:=0,nils:=[] }
noncomputable def Zbf.fn:D.Fn:={ body:=Tryz.f257.body.getD .skip,res:=Tryz.f257.results.toList,ins:=[.agg [.v (.sl 27 (.sl 2 (.int .i64)))],.one (.v (.sl 2 (.int .i64)))],outs:=[.one (.v (.int .i64))] }
def Zbf.enc (y:lsd (flats Zbf.fn.outs)×lsd (ios Zbf.fn.ins)):Int:=y.1.1
noncomputable def Zbf.f (l0_0:List (List Int)) (l1:List Int):Option Int:=denF Zbf.E Zbf.fn Zbf.enc (l0_0,l1,())
noncomputable def Zbf.l0 (x5:Int) (x8:List Int) (x9:Int) (x10:Int) (b0_0:List (List Int)):Option Int:=denAt Zbf.E Zbf.fn Zbf.enc [1,1,0,1,0] { fr:=[(2,.lf (.box 0 0)),(5,.lf (.int .i64 x5)),(8,.lf (.sl (.int .i64) x8)),(9,.lf (.int .i64 x9)),(10,.lf (.int .i64 x10))],ob:=[(0,.box 26 false [.sl (.sl 2 (.int .i64)) b0_0])],nx:=1 }
theorem Zbf.f_eq (l0_0:List (List Int)) (l1:List Int):Zbf.f l0_0 l1=Zbf.l0 0 l1 (l1.length:Int) 0 l0_0:=by kernel_rfl
theorem Zbf.l0_eq (x5:Int) (x8:List Int) (x9:Int) (x10:Int) (b0_0:List (List Int)):Zbf.l0 x5 x8 x9 x10 b0_0=if x10 < x9 then(if 0≤x10 then(if x10 < (x8.length:Int)then(if(rd x8 x10)=0 then(some (-1))else((ZS.f b0_0).bind fun t18=>Zbf.l0 (wrapI ((wrapI ((wrapI (x5*(wrapI (t18 - 1))))+(rd x8 x10))) - 1)) x8 x9 (wrapI (x10+1)) b0_0))else none)else none)else(some x5):=(Zm _ _ _ _).trans (by kernel_rfl)
noncomputable def Zbf.con:Con:=⟨Zbf.fn.ins,Zbf.fn.outs,Int,fun x=>Zbf.f x.1 x.2.1,fun r=>((r,()),(()))⟩
theorem Zbf.valid:Valid Tryz.prog 257 Zbf.con:=fnV Zbf.fn Zbf.E Zbf.enc ⟨ttOk,(Zf ZS.valid Zap)⟩ Tryz.func257
end Go.Proofs.YthmcpmnhdbeahaaGreat.P
namespace Go.Proofs.YthmcpmnhdbeahaaGreat.P
open Go Go.RowKit Go.Proofs.YthmcpmnhdbeahaaGreat.D
noncomputable def Zao.E:Env:={ tt:=TT,con:=[(257,Zbf.con)],frz:=[],rows:=[],live:=[],n:=18,pin:=0,nils:=[] }
noncomputable def Zao.fn:D.Fn:={ body:=Tryz.f205.body.getD .skip,res:=Tryz.f205.results.toList,ins:=[.agg [.v (.int .i64),.v (.sl 2 (.int .i64))],.agg [.v (.sl 27 (.sl 2 (.int .i64)))],.one (.v (.sl 2 (.int .i64)))],outs:=[.one (.v (.int .i64))] }
def Zao.enc (y:lsd (flats Zao.fn.outs)×lsd (ios Zao.fn.ins)):Int:=y.1.1
noncomputable def Zao.f (a0_0:Int) (l0_1:List Int) (l1_0:List (List Int)) (l2:List Int):Option Int:=denF Zao.E Zao.fn Zao.enc (a0_0,l0_1,l1_0,l2,())
theorem Zao.f_eq (a0_0:Int) (l0_1:List Int) (l1_0:List (List Int)) (l2:List Int):Zao.f a0_0 l0_1 l1_0 l2=(Zbf.f l1_0 l2).bind fun t10=>if t10≥0 then(if 0≤t10 then(if t10 < (l0_1.length:Int)then(some (rd l0_1 t10))else none)else none)else(some 0):=by kernel_rfl
noncomputable def Zao.con:Con:=⟨Zao.fn.ins,Zao.fn.outs,Int,fun x=>Zao.f x.1 x.2.1 x.2.2.1 x.2.2.2.1,fun r=>((r,()),(()))⟩
theorem Zao.valid:Valid Tryz.prog 205 Zao.con:=fnV Zao.fn Zao.E Zao.enc ⟨ttOk,(Zf Zbf.valid Zap)⟩ Tryz.func205
end Go.Proofs.YthmcpmnhdbeahaaGreat.P
namespace Go.Proofs.YthmcpmnhdbeahaaGreat.P
open Go Go.RowKit Go.Proofs.YthmcpmnhdbeahaaGreat.D
noncomputable def Z4.E:Env:={ tt:=TT,con:=[(205,Zao.con),(172,Zo.con)],frz:=[],rows:=[],live:=[(5,[3,4,6,9,10,11,30,31])],n:=79,pin:=0,nils:=[] }
noncomputable def Z4.fn:D.Fn:={ body:=Tryz.f251.body.getD .skip,res:=Tryz.f251.results.toList,ins:=[.agg [.v (.sl 27 (.sl 2 (.int .i64)))],.agg [.v (.int .i64),.v (.sl 2 (.int .i64))],.agg [.v (.int .i64),.v (.sl 2 (.int .i64))],.one (.v (.sl 2 (.int .i64)))],outs:=[.one (.v (.int .i64))] }
def Z4.enc (y:lsd (flats Z4.fn.outs)×lsd (ios Z4.fn.ins)):Int:=y.1.1
noncomputable def Z4.f (l0_0:List (List Int)) (a1_0:Int) (l1_1:List Int) (a2_0:Int) (l2_1:List Int) (l3:List Int):Option Int:=denF Z4.E Z4.fn Z4.enc (l0_0,a1_0,l1_1,a2_0,l2_1,l3,())
noncomputable def Z4.l0 (x3:List Int) (x9:Int) (x10:Int) (x11:Int) (x30:Int) (x31:Int) (b0_0:List (List Int)) (b1_0:Int) (b1_1:List Int):Option Int:=denAt Z4.E Z4.fn Z4.enc [1,1,1,1,0,1,0] { fr:=[(3,.lf (.sl (.int .i64) x3)),(4,.lf (.box 0 0)),(6,.lf (.box 1 0)),(9,.lf (.int .i64 x9)),(10,.lf (.int .i64 x10)),(11,.lf (.int .i64 x11)),(30,.lf (.int .i64 x30)),(31,.lf (.int .i64 x31))],ob:=[(0,.box 26 false [.sl (.sl 2 (.int .i64)) b0_0]),(1,.box 56 false [.int .i64 b1_0,.sl (.int .i64) b1_1])],nx:=2 }
theorem Z4.f_eq (l0_0:List (List Int)) (a1_0:Int) (l1_1:List Int) (a2_0:Int) (l2_1:List Int) (l3:List Int):Z4.f l0_0 a1_0 l1_1 a2_0 l2_1 l3=if 0 < (l3.length:Int)then(if 0≤rd l3 0 then(if rd l3 0 < (l1_1.length:Int)then(if 1≤(l3.length:Int)then((Zao.f a2_0 l2_1 l0_0 (l3.drop (1:Int).toNat)).bind fun t28=>Z4.l0 l3 (wrapI ((l3.length:Int) - 1)) (wrapI ((rd l1_1 (rd l3 0))*t28)) (-1) (wrapI ((l3.length:Int) - 1)) 0 l0_0 a2_0 l2_1)else none)else none)else none)else none:=by kernel_rfl
theorem Z4.l0_eq (x3:List Int) (x9:Int) (x10:Int) (x11:Int) (x30:Int) (x31:Int) (b0_0:List (List Int)) (b1_0:Int) (b1_1:List Int):Z4.l0 x3 x9 x10 x11 x30 x31 b0_0 b1_0 b1_1=if x31 < x30 then(if 0≤x31 then(if x31≤(x3.length:Int)then(if([]:List Int).length+(x3.take (x31:Int).toNat).length≤17592186044416 then(if 0≤x31 then(if x31 < (x3.length:Int)then(if 0≤wrapI (x31+1)then(if wrapI (x31+1) < (x3.length:Int)then((Zo.f b0_0 ([rd x3 x31,rd x3 (wrapI (x31+1))]:List Int)).bind fun t50=>if(([]:List Int)++(x3.take (x31:Int).toNat)).length+([t50]:List Int).length≤17592186044416 then(if 0≤wrapI (x31+2)then(if wrapI (x31+2)≤(x3.length:Int)then(if((([]:List Int)++(x3.take (x31:Int).toNat))++([t50]:List Int)).length+(x3.drop (wrapI (x31+2):Int).toNat).length≤17592186044416 then((Zao.f b1_0 b1_1 b0_0 (((([]:List Int)++(x3.take (x31:Int).toNat))++([t50]:List Int))++(x3.drop (wrapI (x31+2):Int).toNat))).bind fun t63=>Z4.l0 x3 x9 (wrapI (x10+(wrapI (x11*t63)))) (wrapI (0 - x11)) x30 (wrapI (x31+1)) b0_0 b1_0 b1_1)else none)else none)else none)else none)else none)else none)else none)else none)else none)else none)else none)else(if 0≤x9 then(if x9≤(x3.length:Int)then((Zao.f b1_0 b1_1 b0_0 (x3.take (x9:Int).toNat)).bind fun t76=>some (wrapI (x10+(wrapI (x11*t76)))))else none)else none):=(Zm _ _ _ _).trans (by kernel_rfl)
noncomputable def Z4.con:Con:=⟨Z4.fn.ins,Z4.fn.outs,Int,fun x=>Z4.f x.1 x.2.1 x.2.2.1 x.2.2.2.1 x.2.2.2.2.1 x.2.2.2.2.2.1,fun r=>((r,()),(()))⟩
theorem Z4.valid:Valid Tryz.prog 251 Z4.con:=fnV Z4.fn Z4.E Z4.enc ⟨ttOk,(Zf Zao.valid (Zf Zo.valid Zap))⟩ Tryz.func251
end Go.Proofs.YthmcpmnhdbeahaaGreat.P
namespace Go.Proofs.YthmcpmnhdbeahaaGreat.P
open Go Go.RowKit Go.Proofs.YthmcpmnhdbeahaaGreat.D
noncomputable def ZaM.E:Env:={ tt:=TT,con:=[(251,Z4.con)],frz:=[],rows:=[],live:=[],n:=11,pin:=0,nils:=[] }
noncomputable def ZaM.fn:D.Fn:={ body:=Tryz.f250.body.getD .skip,res:=Tryz.f250.results.toList,ins:=[.one (.v (.sl 2 (.int .i64))),.ptr true 26 [.v (.sl 27 (.sl 2 (.int .i64)))],.ptr true 29 [.v (.int .i64),.v (.sl 2 (.int .i64))],.ptr true 56 [.v (.int .i64),.v (.sl 2 (.int .i64))]],outs:=[.one (.v (.int .i64))] }
def ZaM.enc (y:lsd (flats ZaM.fn.outs)×lsd (ios ZaM.fn.ins)):Int:=y.1.1
noncomputable def ZaM.f (l0:List Int) (l1:List (List Int)) (a2_0:Int) (l2_1:List Int) (a3_0:Int) (l3_1:List Int):Option Int:=denF ZaM.E ZaM.fn ZaM.enc (l0,l1,a2_0,l2_1,a3_0,l3_1,())
theorem ZaM.f_eq (l0:List Int) (l1:List (List Int)) (a2_0:Int) (l2_1:List Int) (a3_0:Int) (l3_1:List Int):ZaM.f l0 l1 a2_0 l2_1 a3_0 l3_1=(Z4.f l1 a2_0 l2_1 a3_0 l3_1 l0).bind fun t10=>some t10:=by kernel_rfl
noncomputable def ZaM.con:Con:=⟨ZaM.fn.ins,ZaM.fn.outs,Int,fun x=>ZaM.f x.1 x.2.1 x.2.2.1 x.2.2.2.1 x.2.2.2.2.1 x.2.2.2.2.2.1,fun r=>((r,()),(()))⟩
theorem ZaM.valid:Valid Tryz.prog 250 ZaM.con:=fnV ZaM.fn ZaM.E ZaM.enc ⟨ttOk,(Zf Z4.valid Zap)⟩ Tryz.func250
end Go.Proofs.YthmcpmnhdbeahaaGreat.P
namespace Go.Proofs.YthmcpmnhdbeahaaGreat.P
open Go Go.RowKit Go.Proofs.YthmcpmnhdbeahaaGreat.D
noncomputable def ZaK.E:Env:={ tt:=TT,con:=[(249,Zbl.con),(250,ZaM.con)],frz:=[],rows:=[],live:=[],n:=15,pin:=0,nils:=[] }
noncomputable def ZaK.fn:D.Fn:={ body:=Tryz.f192.body.getD .skip,res:=Tryz.f192.results.toList,ins:=[.agg [.v (.sl 27 (.sl 2 (.int .i64)))],.agg [.v (.int .i64),.v (.sl 2 (.int .i64))],.agg [.v (.int .i64),.v (.sl 2 (.int .i64))]],outs:=[.agg [.v (.int .i64),.own 2 true (.int .i64)]] }
def ZaK.enc (y:lsd (flats ZaK.fn.outs)×lsd (ios ZaK.fn.ins)):Int×(List Int):=(y.1.1,y.1.2.1)
noncomputable def ZaK.f (l0_0:List (List Int)) (a1_0:Int) (l1_1:List Int) (a2_0:Int) (l2_1:List Int):Option (Int×(List Int)):=denF ZaK.E ZaK.fn ZaK.enc (l0_0,a1_0,l1_1,a2_0,l2_1,())
theorem ZaK.f_eq (l0_0:List (List Int)) (a1_0:Int) (l1_1:List Int) (a2_0:Int) (l2_1:List Int):ZaK.f l0_0 a1_0 l1_1 a2_0 l2_1=(Zbl.f l0_0 a1_0 (wrapI (a2_0+1)) (fun z0=>(ZaM.f z0 l0_0 a1_0 l1_1 a2_0 l2_1).map fun z=>z)).bind fun t14=>some (t14.1,t14.2):=by kernel_rfl
noncomputable def ZaK.con:Con:=⟨ZaK.fn.ins,ZaK.fn.outs,Int×(List Int),fun x=>ZaK.f x.1 x.2.1 x.2.2.1 x.2.2.2.1 x.2.2.2.2.1,fun r=>((r.1,r.2,()),(()))⟩
theorem ZaK.valid:Valid Tryz.prog 192 ZaK.con:=fnV ZaK.fn ZaK.E ZaK.enc ⟨ttOk,(Zf Zbl.valid (Zf ZaM.valid Zap))⟩ Tryz.func192
end Go.Proofs.YthmcpmnhdbeahaaGreat.P
namespace Go.Proofs.YthmcpmnhdbeahaaGreat.P
open Go Go.RowKit Go.Proofs.YthmcpmnhdbeahaaGreat.D
noncomputable def Zak.E:Env:={ tt:=TT,con:=[(192,ZaK.con)],frz:=[],rows:=[],live:=[(2,[13,14,15])],n:=22,pin:=0,nils:=[] }
noncomputable def Zak.fn:D.Fn:={ body:=Tryz.f125.body.getD .skip,res:=Tryz.f125.results.toList,ins:=[.agg [.v (.sl 27 (.sl 2 (.int .i64)))],.agg [.v (.int .i64),.v (.sl 2 (.int .i64))],.agg [.v (.int .i64),.v (.sl 2 (.int .i64))]],outs:=[.one (.v .bool)] }
def Zak.enc (y:lsd (flats Zak.fn.outs)×lsd (ios Zak.fn.ins)):Bool:=y.1.1
noncomputable def Zak.f (l0_0:List (List Int)) (a1_0:Int) (l1_1:List Int) (a2_0:Int) (l2_1:List Int):Option Bool:=denF Zak.E Zak.fn Zak.enc (l0_0,a1_0,l1_1,a2_0,l2_1,())
noncomputable def Zak.l0 (x14:Int) (x15:Int) (r0:List Int):Option Bool:=denAt Zak.E Zak.fn Zak.enc [1,0,1,0] { fr:=[(13,.lf (.own 0)),(14,.lf (.int .i64 x14)),(15,.lf (.int .i64 x15))],ob:=[(0,.row 2 true (.int .i64) r0)],nx:=1 }
theorem Zak.f_eq (l0_0:List (List Int)) (a1_0:Int) (l1_1:List Int) (a2_0:Int) (l2_1:List Int):Zak.f l0_0 a1_0 l1_1 a2_0 l2_1=(ZaK.f l0_0 a1_0 l1_1 a2_0 l2_1).bind fun t12=>Zak.l0 (t12.2.length:Int) 0 t12.2:=by kernel_rfl
theorem Zak.l0_eq (x14:Int) (x15:Int) (r0:List Int):Zak.l0 x14 x15 r0=if x15 < x14 then(if 0≤x15 then(if x15 < (r0.length:Int)then(if 0≤x15 then(if x15 < (r0.length:Int)then(if(rd r0 x15)=0 then(Zak.l0 x14 (wrapI (x15+1)) r0)else(some false))else none)else none)else none)else none)else(some true):=(Zm _ _ _ _).trans (by kernel_rfl)
noncomputable def Zak.con:Con:=⟨Zak.fn.ins,Zak.fn.outs,Bool,fun x=>Zak.f x.1 x.2.1 x.2.2.1 x.2.2.2.1 x.2.2.2.2.1,fun r=>((r,()),(()))⟩
theorem Zak.valid:Valid Tryz.prog 125 Zak.con:=fnV Zak.fn Zak.E Zak.enc ⟨ttOk,(Zf ZaK.valid Zap)⟩ Tryz.func125
end Go.Proofs.YthmcpmnhdbeahaaGreat.P
namespace Go.Proofs.YthmcpmnhdbeahaaGreat.P
open Go Go.RowKit Go.Proofs.YthmcpmnhdbeahaaGreat.D
noncomputable def ZM.E:Env:={ tt:=TT,con:=[(124,ZH.con),(139,ZS.con),(125,Zak.con)],frz:=[],rows:=[13],live:=[],n:=36,pin:=0,nils:=[] }
noncomputable def ZM.fn:D.Fn:={ body:=Tryz.f131.body.getD .skip,res:=Tryz.f131.results.toList,ins:=[.agg [.v (.sl 27 (.sl 2 (.int .i64)))],.agg [.v (.int .i64),.v (.sl 2 (.int .i64))],.agg [.v (.int .i64),.v (.sl 2 (.int .i64))],.one (.v (.int .i64))],outs:=[.one (.v (.int .i64))] }
def ZM.enc (y:lsd (flats ZM.fn.outs)×lsd (ios ZM.fn.ins)):Int:=y.1.1
noncomputable def ZM.f (l0_0:List (List Int)) (a1_0:Int) (l1_1:List Int) (a2_0:Int) (l2_1:List Int) (a3:Int):Option Int:=denF ZM.E ZM.fn ZM.enc (l0_0,a1_0,l1_1,a2_0,l2_1,a3,())
theorem ZM.f_eq (l0_0:List (List Int)) (a1_0:Int) (l1_1:List Int) (a2_0:Int) (l2_1:List Int) (a3:Int):ZM.f l0_0 a1_0 l1_1 a2_0 l2_1 a3=(ZH.f l0_0 a1_0 l1_1 ([(a2_0,l2_1)]:List (Int×(List Int)))).bind fun t14=>if t14=0 then(if a2_0=2 then((ZS.f l0_0).bind fun t24=>if(wrapI (t24*a1_0)) > a3 then(some 3)else((Zak.f l0_0 a1_0 l1_1 a2_0 l2_1).bind fun t34=>if t34=true then(some 0)else(some 5)))else(some 2))else(some t14):=by kernel_rfl
noncomputable def ZM.con:Con:=⟨ZM.fn.ins,ZM.fn.outs,Int,fun x=>ZM.f x.1 x.2.1 x.2.2.1 x.2.2.2.1 x.2.2.2.2.1 x.2.2.2.2.2.1,fun r=>((r,()),(()))⟩
theorem ZM.valid:Valid Tryz.prog 131 ZM.con:=fnV ZM.fn ZM.E ZM.enc ⟨ttOk,(Zf ZH.valid (Zf ZS.valid (Zf Zak.valid Zap)))⟩ Tryz.func131
end Go.Proofs.YthmcpmnhdbeahaaGreat.P
namespace Go.Proofs.YthmcpmnhdbeahaaGreat.P
open Go Go.RowKit Go.Proofs.YthmcpmnhdbeahaaGreat.D
noncomputable def ZaV.E:Env:={ tt:=TT,con:=[],frz:=[],rows:=[],live:=[(3,[0,1,4,5,10,11]),(7,[0,1,4,5,6,7,10,11,15,16])],n:=35,pin:=0,nils:=[4,5,9] }
noncomputable def ZaV.fn:D.Fn:={ body:=Tryz.f203.body.getD .skip,res:=Tryz.f203.results.toList,ins:=[.one (.v (.int .i64)),.one (.fn [(.int .i64),(.int .i64)] (.int .i64))],outs:=[.agg [.own 27 true (.sl 2 (.int .i64))]] }
def ZaV.enc (y:lsd (flats ZaV.fn.outs)×lsd (ios ZaV.fn.ins)):(List (List Int)):=y.1.1
noncomputable def ZaV.f (a0:Int) (f1:Int→Int→Option Int):Option (List (List Int)):=denF ZaV.E ZaV.fn ZaV.enc (a0,fun x=>f1 x.1 x.2.1,())
noncomputable def ZaV.l0 (x0:Int) (fx1:Int→Int→Option Int) (x10:Int) (x11:Int) (r2:List (List Int)) (r3:List (List Int)):Option (List (List Int)):=denAt ZaV.E ZaV.fn ZaV.enc [1,1,0,1,0] { fr:=[(0,.lf (.int .i64 x0)),(1,.lf (.fn [(.int .i64),(.int .i64)] (.int .i64) (fun x=>fx1 x.1 x.2.1))),(4,.lf (.box 0 0)),(5,.lf (.box 1 0)),(10,.lf (.int .i64 x10)),(11,.lf (.int .i64 x11))],ob:=[(0,.box 26 false [.own 2]),(1,.box 26 false [.own 3]),(2,.row 27 true (.sl 2 (.int .i64)) r2),(3,.row 27 true (.sl 2 (.int .i64)) r3)],nx:=4 }
noncomputable def ZaV.l1 (x0:Int) (fx1:Int→Int→Option Int) (x6:Int) (x10:Int) (x11:Int) (x15:Int) (x16:Int) (r2:List Int) (r3:List (List Int)) (r4:List (List Int)):Option (List (List Int)):=denAt ZaV.E ZaV.fn ZaV.enc [1,1,0,1,0,0,1,1,0,0,1,1,0,1,0] { fr:=[(0,.lf (.int .i64 x0)),(1,.lf (.fn [(.int .i64),(.int .i64)] (.int .i64) (fun x=>fx1 x.1 x.2.1))),(4,.lf (.box 0 0)),(5,.lf (.box 1 0)),(6,.lf (.int .i64 x6)),(7,.lf (.own 2)),(10,.lf (.int .i64 x10)),(11,.lf (.int .i64 x11)),(15,.lf (.int .i64 x15)),(16,.lf (.int .i64 x16))],ob:=[(0,.box 26 false [.own 3]),(1,.box 26 false [.own 4]),(2,.row 2 true (.int .i64) r2),(3,.row 27 true (.sl 2 (.int .i64)) r3),(4,.row 27 true (.sl 2 (.int .i64)) r4)],nx:=5 }
theorem ZaV.f_eq (a0:Int) (f1:Int→Int→Option Int):ZaV.f a0 f1=ZaV.l0 a0 f1 a0 0 ([]:List (List Int)) ([]:List (List Int)):=by kernel_rfl
theorem ZaV.l0_eq (x0:Int) (fx1:Int→Int→Option Int) (x10:Int) (x11:Int) (r2:List (List Int)) (r3:List (List Int)):ZaV.l0 x0 fx1 x10 x11 r2 r3=if x11 < x10 then(ZaV.l1 x0 fx1 x11 x10 x11 x0 0 ([]:List Int) r2 r3)else(some r3):=(Zm _ _ _ _).trans (by kernel_rfl)
theorem ZaV.l1_eq (x0:Int) (fx1:Int→Int→Option Int) (x6:Int) (x10:Int) (x11:Int) (x15:Int) (x16:Int) (r2:List Int) (r3:List (List Int)) (r4:List (List Int)):ZaV.l1 x0 fx1 x6 x10 x11 x15 x16 r2 r3 r4=if x16 < x15 then((fx1 x6 x16).bind fun t23=>if r2.length+([t23]:List Int).length≤17592186044416 then(ZaV.l1 x0 fx1 x6 x10 x11 x15 (wrapI (x16+1)) (r2++([t23]:List Int)) r3 r4)else none)else(if r4.length+([r2]:List (List Int)).length≤5864062014805 then(ZaV.l0 x0 fx1 x10 (wrapI (x11+1)) r3 (r4++([r2]:List (List Int))))else none):=(Zm _ _ _ _).trans (by kernel_rfl)
noncomputable def ZaV.con:Con:=⟨ZaV.fn.ins,ZaV.fn.outs,(List (List Int)),fun x=>ZaV.f x.1 (fun z0 z1=>x.2.1 (z0,z1,())),fun r=>((r,()),(()))⟩
theorem ZaV.valid:Valid Tryz.prog 203 ZaV.con:=fnV ZaV.fn ZaV.E ZaV.enc ⟨ttOk,Zap⟩ Tryz.func203
end Go.Proofs.YthmcpmnhdbeahaaGreat.P
namespace Go.Proofs.YthmcpmnhdbeahaaGreat.P
open Go Go.RowKit Go.Proofs.YthmcpmnhdbeahaaGreat.D
noncomputable def Zay.E:Env:={ tt:=TT,con:=[(205,Zao.con),(172,Zo.con)],frz:=[],rows:=[],live:=[],n:=54,pin:=0,nils:=[] }
noncomputable def Zay.fn:D.Fn:={ body:=Tryz.f204.body.getD .skip,res:=Tryz.f204.results.toList,ins:=[.one (.v (.int .i64)),.one (.v (.int .i64)),.ptr true 29 [.v (.int .i64),.v (.sl 2 (.int .i64))],.ptr true 56 [.v (.int .i64),.v (.sl 2 (.int .i64))],.ptr true 26 [.v (.sl 27 (.sl 2 (.int .i64)))]],outs:=[.one (.v (.int .i64))] }
def Zay.enc (y:lsd (flats Zay.fn.outs)×lsd (ios Zay.fn.ins)):Int:=y.1.1
noncomputable def Zay.f (a0:Int) (a1:Int) (a2_0:Int) (l2_1:List Int) (a3_0:Int) (l3_1:List Int) (l4:List (List Int)):Option Int:=denF Zay.E Zay.fn Zay.enc (a0,a1,a2_0,l2_1,a3_0,l3_1,l4,())
theorem Zay.f_eq (a0:Int) (a1:Int) (a2_0:Int) (l2_1:List Int) (a3_0:Int) (l3_1:List Int) (l4:List (List Int)):Zay.f a0 a1 a2_0 l2_1 a3_0 l3_1 l4=if a2_0=0 then none else(if a2_0=0 then none else(if a2_0=0 then none else(if 0≤wrapI ((a0:Int).tdiv a2_0)then(if wrapI ((a0:Int).tdiv a2_0) < (l2_1.length:Int)then(if a2_0=0 then none else((Zao.f a3_0 l3_1 l4 ([wrapI ((a0:Int).tdiv a2_0),wrapI ((a1:Int).tdiv a2_0)]:List Int)).bind fun t39=>(Zo.f l4 ([wrapI ((a0:Int).tdiv a2_0),wrapI ((a1:Int).tdiv a2_0)]:List Int)).bind fun t47=>if a2_0=0 then none else(some (wrapI ((wrapI (a2_0*t47))+((wrapI ((wrapI (((a0:Int).tmod a2_0)+(wrapI ((rd l2_1 (wrapI ((a0:Int).tdiv a2_0)))*((a1:Int).tmod a2_0)))))+t39):Int).tmod a2_0))))))else none)else none))):=by kernel_rfl
noncomputable def Zay.con:Con:=⟨Zay.fn.ins,Zay.fn.outs,Int,fun x=>Zay.f x.1 x.2.1 x.2.2.1 x.2.2.2.1 x.2.2.2.2.1 x.2.2.2.2.2.1 x.2.2.2.2.2.2.1,fun r=>((r,()),(()))⟩
theorem Zay.valid:Valid Tryz.prog 204 Zay.con:=fnV Zay.fn Zay.E Zay.enc ⟨ttOk,(Zf Zao.valid (Zf Zo.valid Zap))⟩ Tryz.func204
end Go.Proofs.YthmcpmnhdbeahaaGreat.P
namespace Go.Proofs.YthmcpmnhdbeahaaGreat.P
open Go Go.RowKit Go.Proofs.YthmcpmnhdbeahaaGreat.D
noncomputable def ZaF.E:Env:={ tt:=TT,con:=[(139,ZS.con),(203,ZaV.con),(204,Zay.con)],frz:=[],rows:=[],live:=[],n:=14,pin:=0,nils:=[] }
noncomputable def ZaF.fn:D.Fn:={ body:=Tryz.f132.body.getD .skip,res:=Tryz.f132.results.toList,ins:=[.agg [.v (.sl 27 (.sl 2 (.int .i64)))],.agg [.v (.int .i64),.v (.sl 2 (.int .i64))],.agg [.v (.int .i64),.v (.sl 2 (.int .i64))]],outs:=[.agg [.own 27 true (.sl 2 (.int .i64))]] }
def ZaF.enc (y:lsd (flats ZaF.fn.outs)×lsd (ios ZaF.fn.ins)):(List (List Int)):=y.1.1
noncomputable def ZaF.f (l0_0:List (List Int)) (a1_0:Int) (l1_1:List Int) (a2_0:Int) (l2_1:List Int):Option (List (List Int)):=denF ZaF.E ZaF.fn ZaF.enc (l0_0,a1_0,l1_1,a2_0,l2_1,())
theorem ZaF.f_eq (l0_0:List (List Int)) (a1_0:Int) (l1_1:List Int) (a2_0:Int) (l2_1:List Int):ZaF.f l0_0 a1_0 l1_1 a2_0 l2_1=(ZS.f l0_0).bind fun t8=>(ZaV.f (wrapI (t8*a1_0)) (fun z0 z1=>(Zay.f z0 z1 a1_0 l1_1 a2_0 l2_1 l0_0).map fun z=>z)).bind fun t13=>some t13:=by kernel_rfl
noncomputable def ZaF.con:Con:=⟨ZaF.fn.ins,ZaF.fn.outs,(List (List Int)),fun x=>ZaF.f x.1 x.2.1 x.2.2.1 x.2.2.2.1 x.2.2.2.2.1,fun r=>((r,()),(()))⟩
theorem ZaF.valid:Valid Tryz.prog 132 ZaF.con:=fnV ZaF.fn ZaF.E ZaF.enc ⟨ttOk,(Zf ZS.valid (Zf ZaV.valid (Zf Zay.valid Zap)))⟩ Tryz.func132
end Go.Proofs.YthmcpmnhdbeahaaGreat.P
namespace Go.Proofs.YthmcpmnhdbeahaaGreat.P
open Go Go.RowKit Go.Proofs.YthmcpmnhdbeahaaGreat.D
noncomputable def Zaa.E:Env:={ tt:=TT,con:=[(131,ZM.con),(132,ZaF.con)],frz:=[],rows:=[],live:=[],n:=21,pin:=0,nils:=[] }
noncomputable def Zaa.fn:D.Fn:={ body:=Tryz.f50.body.getD .skip,res:=Tryz.f50.results.toList,ins:=[.agg [.v (.sl 27 (.sl 2 (.int .i64)))],.agg [.v (.int .i64),.v (.sl 2 (.int .i64))],.agg [.v (.int .i64),.v (.sl 2 (.int .i64))]],outs:=[.one (.own 27 true (.sl 2 (.int .i64))),.one (.v (.int .i64))] }
def Zaa.enc (y:lsd (flats Zaa.fn.outs)×lsd (ios Zaa.fn.ins)):(List (List Int))×Int:=(y.1.1,y.1.2.1)
noncomputable def Zaa.f (l0_0:List (List Int)) (a1_0:Int) (l1_1:List Int) (a2_0:Int) (l2_1:List Int):Option ((List (List Int))×Int):=denF Zaa.E Zaa.fn Zaa.enc (l0_0,a1_0,l1_1,a2_0,l2_1,())
theorem Zaa.f_eq (l0_0:List (List Int)) (a1_0:Int) (l1_1:List Int) (a2_0:Int) (l2_1:List Int):Zaa.f l0_0 a1_0 l1_1 a2_0 l2_1=(ZM.f l0_0 a1_0 l1_1 a2_0 l2_1 64).bind fun t12=>if t12=0 then((ZaF.f l0_0 a1_0 l1_1 a2_0 l2_1).bind fun t19=>some (t19,0))else(some (([]:List (List Int)),t12)):=by kernel_rfl
noncomputable def Zaa.con:Con:=⟨Zaa.fn.ins,Zaa.fn.outs,(List (List Int))×Int,fun x=>Zaa.f x.1 x.2.1 x.2.2.1 x.2.2.2.1 x.2.2.2.2.1,fun r=>((r.1,r.2,()),(()))⟩
theorem Zaa.valid:Valid Tryz.prog 50 Zaa.con:=fnV Zaa.fn Zaa.E Zaa.enc ⟨ttOk,(Zf ZM.valid (Zf ZaF.valid Zap))⟩ Tryz.func50
end Go.Proofs.YthmcpmnhdbeahaaGreat.P
namespace Go.Proofs.YthmcpmnhdbeahaaGreat.P
open Go Go.RowKit Go.Proofs.YthmcpmnhdbeahaaGreat.D
noncomputable def Zad.E:Env:={ tt:=TT,con:=[(103,Zbe.con),(183,ZaI.con)],frz:=[],rows:=[],live:=[(4,[2,3,5]),(9,[2,3,6]),(12,[2,3,6,7])],n:=90,pin:=0,nils:=[] }
noncomputable def Zad.fn:D.Fn:={ body:=Tryz.f110.body.getD .skip,res:=Tryz.f110.results.toList,ins:=[.agg [.v (.sl 27 (.sl 2 (.int .i64)))],.agg [.v (.int .i64),.v (.sl 2 (.int .i64))]],outs:=[.one (.v .bool)] }
def Zad.enc (y:lsd (flats Zad.fn.outs)×lsd (ios Zad.fn.ins)):Bool:=y.1.1
noncomputable def Zad.f (l0_0:List (List Int)) (a1_0:Int) (l1_1:List Int):Option Bool:=denF Zad.E Zad.fn Zad.enc (l0_0,a1_0,l1_1,())
noncomputable def Zad.l0 (x5:Int) (b0_0:List (List Int)) (b1_0:Int) (b1_1:List Int):Option Bool:=denAt Zad.E Zad.fn Zad.enc [1,1,0,1,0] { fr:=[(2,.lf (.box 0 0)),(3,.lf (.box 1 0)),(5,.lf (.int .i64 x5))],ob:=[(0,.box 26 false [.sl (.sl 2 (.int .i64)) b0_0]),(1,.box 29 false [.int .i64 b1_0,.sl (.int .i64) b1_1])],nx:=2 }
noncomputable def Zad.l1 (x6:Int) (b0_0:List (List Int)) (b1_0:Int) (b1_1:List Int):Option Bool:=denAt Zad.E Zad.fn Zad.enc [1,1,1,0,1,0] { fr:=[(2,.lf (.box 0 0)),(3,.lf (.box 1 0)),(6,.lf (.int .i64 x6))],ob:=[(0,.box 26 false [.sl (.sl 2 (.int .i64)) b0_0]),(1,.box 29 false [.int .i64 b1_0,.sl (.int .i64) b1_1])],nx:=2 }
noncomputable def Zad.l2 (x6:Int) (x7:Int) (b0_0:List (List Int)) (b1_0:Int) (b1_1:List Int):Option Bool:=denAt Zad.E Zad.fn Zad.enc [1,1,1,0,1,0,0,1,0,0,1,0] { fr:=[(2,.lf (.box 0 0)),(3,.lf (.box 1 0)),(6,.lf (.int .i64 x6)),(7,.lf (.int .i64 x7))],ob:=[(0,.box 26 false [.sl (.sl 2 (.int .i64)) b0_0]),(1,.box 29 false [.int .i64 b1_0,.sl (.int .i64) b1_1])],nx:=2 }
theorem Zad.f_eq (l0_0:List (List Int)) (a1_0:Int) (l1_1:List Int):Zad.f l0_0 a1_0 l1_1=(Zbe.f a1_0 2 12).bind fun t10=>if t10=true then(if(l1_1.length:Int)=(l0_0.length:Int)then(Zad.l0 0 l0_0 a1_0 l1_1)else(some false))else(some false):=by kernel_rfl
theorem Zad.l0_eq (x5:Int) (b0_0:List (List Int)) (b1_0:Int) (b1_1:List Int):Zad.l0 x5 b0_0 b1_0 b1_1=if x5 < (b1_1.length:Int)then(if 0≤x5 then(if x5 < (b1_1.length:Int)then((Zbe.f (rd b1_1 x5) 1 (wrapI (b1_0 - 1))).bind fun t36=>if t36=true then(if 0≤x5 then(if x5 < (b1_1.length:Int)then((ZaI.f (rd b1_1 x5) b1_0).bind fun t46=>if t46=1 then(Zad.l0 (wrapI (x5+1)) b0_0 b1_0 b1_1)else(some false))else none)else none)else(some false))else none)else none)else(Zad.l1 0 b0_0 b1_0 b1_1):=(Zm _ _ _ _).trans (by kernel_rfl)
theorem Zad.l1_eq (x6:Int) (b0_0:List (List Int)) (b1_0:Int) (b1_1:List Int):Zad.l1 x6 b0_0 b1_0 b1_1=if x6 < (b1_1.length:Int)then(Zad.l2 x6 0 b0_0 b1_0 b1_1)else(some true):=(Zm _ _ _ _).trans (by kernel_rfl)
theorem Zad.l2_eq (x6:Int) (x7:Int) (b0_0:List (List Int)) (b1_0:Int) (b1_1:List Int):Zad.l2 x6 x7 b0_0 b1_0 b1_1=if x7 < (b1_1.length:Int)then(if 0≤x6 then(if x6 < (b0_0.length:Int)then(if 0≤x7 then(if x7 < ((row b0_0 x6).length:Int)then(if 0≤T b0_0 x6 x7 then(if T b0_0 x6 x7 < (b1_1.length:Int)then(if 0≤x6 then(if x6 < (b1_1.length:Int)then(if 0≤x7 then(if x7 < (b1_1.length:Int)then(if b1_0=0 then none else(if(rd b1_1 (T b0_0 x6 x7))=((wrapI ((rd b1_1 x6)*(rd b1_1 x7)):Int).tmod b1_0)then(Zad.l2 x6 (wrapI (x7+1)) b0_0 b1_0 b1_1)else(some false)))else none)else none)else none)else none)else none)else none)else none)else none)else none)else none)else(Zad.l1 (wrapI (x6+1)) b0_0 b1_0 b1_1):=(Zm _ _ _ _).trans (by kernel_rfl)
noncomputable def Zad.con:Con:=⟨Zad.fn.ins,Zad.fn.outs,Bool,fun x=>Zad.f x.1 x.2.1 x.2.2.1,fun r=>((r,()),(()))⟩
theorem Zad.valid:Valid Tryz.prog 110 Zad.con:=fnV Zad.fn Zad.E Zad.enc ⟨ttOk,(Zf Zbe.valid (Zf ZaI.valid Zap))⟩ Tryz.func110
end Go.Proofs.YthmcpmnhdbeahaaGreat.P
namespace Go.Proofs.YthmcpmnhdbeahaaGreat.P
open Go Go.RowKit Go.Proofs.YthmcpmnhdbeahaaGreat.D
noncomputable def Za7.E:Env:={ tt:=TT,con:=[(103,Zbe.con),(199,ZG.con)],frz:=[],rows:=[],live:=[(4,[4,5,7])],n:=39,pin:=0,nils:=[] }
noncomputable def Za7.fn:D.Fn:={ body:=Tryz.f258.body.getD .skip,res:=Tryz.f258.results.toList,ins:=[.agg [.v (.sl 27 (.sl 2 (.int .i64)))],.agg [.v (.int .i64),.v (.sl 2 (.int .i64))],.agg [.v (.int .i64),.v (.sl 2 (.int .i64))]],outs:=[.one (.v .bool)] }
def Za7.enc (y:lsd (flats Za7.fn.outs)×lsd (ios Za7.fn.ins)):Bool:=y.1.1
noncomputable def Za7.f (l0_0:List (List Int)) (a1_0:Int) (l1_1:List Int) (a2_0:Int) (l2_1:List Int):Option Bool:=denF Za7.E Za7.fn Za7.enc (l0_0,a1_0,l1_1,a2_0,l2_1,())
noncomputable def Za7.l0 (x7:Int) (b0_0:Int) (b0_1:List Int) (b1_0:Int) (b1_1:List Int):Option Bool:=denAt Za7.E Za7.fn Za7.enc [1,1,0,1,0] { fr:=[(4,.lf (.box 0 0)),(5,.lf (.box 1 0)),(7,.lf (.int .i64 x7))],ob:=[(0,.box 29 false [.int .i64 b0_0,.sl (.int .i64) b0_1]),(1,.box 56 false [.int .i64 b1_0,.sl (.int .i64) b1_1])],nx:=2 }
theorem Za7.f_eq (l0_0:List (List Int)) (a1_0:Int) (l1_1:List Int) (a2_0:Int) (l2_1:List Int):Za7.f l0_0 a1_0 l1_1 a2_0 l2_1=(Zbe.f a2_0 0 3).bind fun t10=>if t10=true then((ZG.f l0_0 a2_0).bind fun t19=>if(l2_1.length:Int)=t19 then(Za7.l0 0 a1_0 l1_1 a2_0 l2_1)else(some false))else(some false):=by kernel_rfl
theorem Za7.l0_eq (x7:Int) (b0_0:Int) (b0_1:List Int) (b1_0:Int) (b1_1:List Int):Za7.l0 x7 b0_0 b0_1 b1_0 b1_1=if x7 < (b1_1.length:Int)then(if 0≤x7 then(if x7 < (b1_1.length:Int)then((Zbe.f (rd b1_1 x7) 0 (wrapI (b0_0 - 1))).bind fun t37=>if t37=true then(Za7.l0 (wrapI (x7+1)) b0_0 b0_1 b1_0 b1_1)else(some false))else none)else none)else(some true):=(Zm _ _ _ _).trans (by kernel_rfl)
noncomputable def Za7.con:Con:=⟨Za7.fn.ins,Za7.fn.outs,Bool,fun x=>Za7.f x.1 x.2.1 x.2.2.1 x.2.2.2.1 x.2.2.2.2.1,fun r=>((r,()),(()))⟩
theorem Za7.valid:Valid Tryz.prog 258 Za7.con:=fnV Za7.fn Za7.E Za7.enc ⟨ttOk,(Zf Zbe.valid (Zf ZG.valid Zap))⟩ Tryz.func258
end Go.Proofs.YthmcpmnhdbeahaaGreat.P
namespace Go.Proofs.YthmcpmnhdbeahaaGreat.P
open Go Go.RowKit Go.Proofs.YthmcpmnhdbeahaaGreat.D
noncomputable def ZaJ.E:Env:={ tt:=TT,con:=[(109,Zs.con),(110,Zad.con),(258,Za7.con)],frz:=[],rows:=[],live:=[(4,[2,3,4,7])],n:=31,pin:=0,nils:=[] }
noncomputable def ZaJ.fn:D.Fn:={ body:=Tryz.f206.body.getD .skip,res:=Tryz.f206.results.toList,ins:=[.agg [.v (.sl 27 (.sl 2 (.int .i64)))],.agg [.v (.int .i64),.v (.sl 2 (.int .i64))],.one (.v (.sl 56 (.pr (.int .i64) (.sl 2 (.int .i64)))))],outs:=[.one (.v (.int .i64))] }
def ZaJ.enc (y:lsd (flats ZaJ.fn.outs)×lsd (ios ZaJ.fn.ins)):Int:=y.1.1
noncomputable def ZaJ.f (l0_0:List (List Int)) (a1_0:Int) (l1_1:List Int) (l2:List (Int×(List Int))):Option Int:=denF ZaJ.E ZaJ.fn ZaJ.enc (l0_0,a1_0,l1_1,l2,())
noncomputable def ZaJ.l0 (x2:List (Int×(List Int))) (x7:Int) (b0_0:List (List Int)) (b1_0:Int) (b1_1:List Int):Option Int:=denAt ZaJ.E ZaJ.fn ZaJ.enc [1,1,0,1,0] { fr:=[(2,.lf (.sl (.pr (.int .i64) (.sl 2 (.int .i64))) x2)),(3,.lf (.box 0 0)),(4,.lf (.box 1 0)),(7,.lf (.int .i64 x7))],ob:=[(0,.box 26 false [.sl (.sl 2 (.int .i64)) b0_0]),(1,.box 29 false [.int .i64 b1_0,.sl (.int .i64) b1_1])],nx:=2 }
theorem ZaJ.f_eq (l0_0:List (List Int)) (a1_0:Int) (l1_1:List Int) (l2:List (Int×(List Int))):ZaJ.f l0_0 a1_0 l1_1 l2=(Zs.f l0_0).bind fun t9=>if t9=true then((Zad.f l0_0 a1_0 l1_1).bind fun t14=>if t14=true then(ZaJ.l0 l2 0 l0_0 a1_0 l1_1)else(some 1))else(some 1):=by kernel_rfl
theorem ZaJ.l0_eq (x2:List (Int×(List Int))) (x7:Int) (b0_0:List (List Int)) (b1_0:Int) (b1_1:List Int):ZaJ.l0 x2 x7 b0_0 b1_0 b1_1=if x7 < (x2.length:Int)then(if 0≤x7 then(if x7 < (x2.length:Int)then((Za7.f b0_0 b1_0 b1_1 ((Ty.rd (.pr (.int .i64) (.sl 2 (.int .i64))) x2 x7).1) ((Ty.rd (.pr (.int .i64) (.sl 2 (.int .i64))) x2 x7).2)).bind fun t29=>if t29=true then(ZaJ.l0 x2 (wrapI (x7+1)) b0_0 b1_0 b1_1)else(some 1))else none)else none)else(some 0):=(Zm _ _ _ _).trans (by kernel_rfl)
noncomputable def ZaJ.con:Con:=⟨ZaJ.fn.ins,ZaJ.fn.outs,Int,fun x=>ZaJ.f x.1 x.2.1 x.2.2.1 x.2.2.2.1,fun r=>((r,()),(()))⟩
theorem ZaJ.valid:Valid Tryz.prog 206 ZaJ.con:=fnV ZaJ.fn ZaJ.E ZaJ.enc ⟨ttOk,(Zf Zs.valid (Zf Zad.valid (Zf Za7.valid Zap)))⟩ Tryz.func206
end Go.Proofs.YthmcpmnhdbeahaaGreat.P
namespace Go.Proofs.YthmcpmnhdbeahaaGreat.P
open Go Go.RowKit Go.Proofs.YthmcpmnhdbeahaaGreat.D
noncomputable def Z5.E:Env:={ tt:=TT,con:=[(199,ZG.con),(260,Zaw.con),(259,Zar.con)],frz:=[],rows:=[],live:=[(2,[3,4,5,7])],n:=28,pin:=0,nils:=[] }
noncomputable def Z5.fn:D.Fn:={ body:=Tryz.f207.body.getD .skip,res:=Tryz.f207.results.toList,ins:=[.agg [.v (.sl 27 (.sl 2 (.int .i64)))],.agg [.v (.int .i64),.v (.sl 2 (.int .i64))],.agg [.v (.int .i64),.v (.sl 2 (.int .i64))]],outs:=[.one (.v .bool)] }
def Z5.enc (y:lsd (flats Z5.fn.outs)×lsd (ios Z5.fn.ins)):Bool:=y.1.1
noncomputable def Z5.f (l0_0:List (List Int)) (a1_0:Int) (l1_1:List Int) (a2_0:Int) (l2_1:List Int):Option Bool:=denF Z5.E Z5.fn Z5.enc (l0_0,a1_0,l1_1,a2_0,l2_1,())
noncomputable def Z5.l0 (x7:Int) (b0_0:List (List Int)) (b1_0:Int) (b1_1:List Int) (b2_0:Int) (b2_1:List Int):Option Bool:=denAt Z5.E Z5.fn Z5.enc [1,0,1,0] { fr:=[(3,.lf (.box 0 0)),(4,.lf (.box 1 0)),(5,.lf (.box 2 0)),(7,.lf (.int .i64 x7))],ob:=[(0,.box 26 false [.sl (.sl 2 (.int .i64)) b0_0]),(1,.box 29 false [.int .i64 b1_0,.sl (.int .i64) b1_1]),(2,.box 56 false [.int .i64 b2_0,.sl (.int .i64) b2_1])],nx:=3 }
theorem Z5.f_eq (l0_0:List (List Int)) (a1_0:Int) (l1_1:List Int) (a2_0:Int) (l2_1:List Int):Z5.f l0_0 a1_0 l1_1 a2_0 l2_1=Z5.l0 0 l0_0 a1_0 l1_1 a2_0 l2_1:=by kernel_rfl
theorem Z5.l0_eq (x7:Int) (b0_0:List (List Int)) (b1_0:Int) (b1_1:List Int) (b2_0:Int) (b2_1:List Int):Z5.l0 x7 b0_0 b1_0 b1_1 b2_0 b2_1=(ZG.f b0_0 (wrapI (b2_0+1))).bind fun t13=>if x7 < t13 then((Zaw.f b0_0 (wrapI (b2_0+1)) x7).bind fun t25=>(Zar.f b0_0 b1_0 b1_1 b2_0 b2_1 t25).bind fun t26=>if t26=0 then(Z5.l0 (wrapI (x7+1)) b0_0 b1_0 b1_1 b2_0 b2_1)else(some false))else(some true):=(Zm _ _ _ _).trans (by kernel_rfl)
noncomputable def Z5.con:Con:=⟨Z5.fn.ins,Z5.fn.outs,Bool,fun x=>Z5.f x.1 x.2.1 x.2.2.1 x.2.2.2.1 x.2.2.2.2.1,fun r=>((r,()),(()))⟩
theorem Z5.valid:Valid Tryz.prog 207 Z5.con:=fnV Z5.fn Z5.E Z5.enc ⟨ttOk,(Zf ZG.valid (Zf Zaw.valid (Zf Zar.valid Zap)))⟩ Tryz.func207
end Go.Proofs.YthmcpmnhdbeahaaGreat.P
namespace Go.Proofs.YthmcpmnhdbeahaaGreat.P
open Go Go.RowKit Go.Proofs.YthmcpmnhdbeahaaGreat.D
noncomputable def Zaq.E:Env:={ tt:=TT,con:=[(206,ZaJ.con),(91,ZX.con),(207,Z5.con)],frz:=[],rows:=[13],live:=[],n:=36,pin:=0,nils:=[] }
noncomputable def Zaq.fn:D.Fn:={ body:=Tryz.f133.body.getD .skip,res:=Tryz.f133.results.toList,ins:=[.agg [.v (.sl 27 (.sl 2 (.int .i64)))],.agg [.v (.int .i64),.v (.sl 2 (.int .i64))],.agg [.v (.int .i64),.v (.sl 2 (.int .i64))],.one (.v (.int .i64))],outs:=[.one (.v (.int .i64))] }
def Zaq.enc (y:lsd (flats Zaq.fn.outs)×lsd (ios Zaq.fn.ins)):Int:=y.1.1
noncomputable def Zaq.f (l0_0:List (List Int)) (a1_0:Int) (l1_1:List Int) (a2_0:Int) (l2_1:List Int) (a3:Int):Option Int:=denF Zaq.E Zaq.fn Zaq.enc (l0_0,a1_0,l1_1,a2_0,l2_1,a3,())
theorem Zaq.f_eq (l0_0:List (List Int)) (a1_0:Int) (l1_1:List Int) (a2_0:Int) (l2_1:List Int) (a3:Int):Zaq.f l0_0 a1_0 l1_1 a2_0 l2_1 a3=(ZaJ.f l0_0 a1_0 l1_1 ([(a2_0,l2_1)]:List (Int×(List Int)))).bind fun t14=>if t14=0 then(if a2_0=2 then((ZX.f l0_0).bind fun t24=>if(wrapI (t24*a1_0)) > a3 then(some 3)else((Z5.f l0_0 a1_0 l1_1 a2_0 l2_1).bind fun t34=>if t34=true then(some 0)else(some 5)))else(some 2))else(some t14):=by kernel_rfl
noncomputable def Zaq.con:Con:=⟨Zaq.fn.ins,Zaq.fn.outs,Int,fun x=>Zaq.f x.1 x.2.1 x.2.2.1 x.2.2.2.1 x.2.2.2.2.1 x.2.2.2.2.2.1,fun r=>((r,()),(()))⟩
theorem Zaq.valid:Valid Tryz.prog 133 Zaq.con:=fnV Zaq.fn Zaq.E Zaq.enc ⟨ttOk,(Zf ZaJ.valid (Zf ZX.valid (Zf Z5.valid Zap)))⟩ Tryz.func133
end Go.Proofs.YthmcpmnhdbeahaaGreat.P
namespace Go.Proofs.YthmcpmnhdbeahaaGreat.P
open Go Go.RowKit Go.Proofs.YthmcpmnhdbeahaaGreat.D
noncomputable def ZL.E:Env:={ tt:=TT,con:=[(91,ZX.con),(208,ZaD.con)],frz:=[],rows:=[],live:=[(3,[3,4,5,7,8,9]),(7,[3,4,5,7,8,9,10,11])],n:=86,pin:=0,nils:=[] }
noncomputable def ZL.fn:D.Fn:={ body:=Tryz.f134.body.getD .skip,res:=Tryz.f134.results.toList,ins:=[.agg [.v (.sl 27 (.sl 2 (.int .i64)))],.agg [.v (.int .i64),.v (.sl 2 (.int .i64))],.agg [.v (.int .i64),.v (.sl 2 (.int .i64))]],outs:=[.one (.own 27 true (.sl 2 (.int .i64)))] }
def ZL.enc (y:lsd (flats ZL.fn.outs)×lsd (ios ZL.fn.ins)):(List (List Int)):=y.1.1
noncomputable def ZL.f (l0_0:List (List Int)) (a1_0:Int) (l1_1:List Int) (a2_0:Int) (l2_1:List Int):Option (List (List Int)):=denF ZL.E ZL.fn ZL.enc (l0_0,a1_0,l1_1,a2_0,l2_1,())
noncomputable def ZL.l0 (x7:Int) (x9:Int) (b0_0:List (List Int)) (b1_0:Int) (b1_1:List Int) (b2_0:Int) (b2_1:List Int) (r3:List (List Int)):Option (List (List Int)):=denAt ZL.E ZL.fn ZL.enc [1,1,0,1,0] { fr:=[(3,.lf (.box 0 0)),(4,.lf (.box 1 0)),(5,.lf (.box 2 0)),(7,.lf (.int .i64 x7)),(8,.lf (.own 3)),(9,.lf (.int .i64 x9))],ob:=[(0,.box 26 false [.sl (.sl 2 (.int .i64)) b0_0]),(1,.box 29 false [.int .i64 b1_0,.sl (.int .i64) b1_1]),(2,.box 56 false [.int .i64 b2_0,.sl (.int .i64) b2_1]),(3,.row 27 true (.sl 2 (.int .i64)) r3)],nx:=4 }
noncomputable def ZL.l1 (x7:Int) (x9:Int) (x11:Int) (b0_0:List (List Int)) (b1_0:Int) (b1_1:List Int) (b2_0:Int) (b2_1:List Int) (r3:List (List Int)) (r4:List Int):Option (List (List Int)):=denAt ZL.E ZL.fn ZL.enc [1,1,0,1,0,0,1,0,0,1,0,1,0] { fr:=[(3,.lf (.box 0 0)),(4,.lf (.box 1 0)),(5,.lf (.box 2 0)),(7,.lf (.int .i64 x7)),(8,.lf (.own 3)),(9,.lf (.int .i64 x9)),(10,.lf (.own 4)),(11,.lf (.int .i64 x11))],ob:=[(0,.box 26 false [.sl (.sl 2 (.int .i64)) b0_0]),(1,.box 29 false [.int .i64 b1_0,.sl (.int .i64) b1_1]),(2,.box 56 false [.int .i64 b2_0,.sl (.int .i64) b2_1]),(3,.row 27 true (.sl 2 (.int .i64)) r3),(4,.row 2 true (.int .i64) r4)],nx:=5 }
theorem ZL.f_eq (l0_0:List (List Int)) (a1_0:Int) (l1_1:List Int) (a2_0:Int) (l2_1:List Int):ZL.f l0_0 a1_0 l1_1 a2_0 l2_1=(ZX.f l0_0).bind fun t16=>ZL.l0 (wrapI (t16*a1_0)) 0 l0_0 a1_0 l1_1 a2_0 l2_1 ([]:List (List Int)):=by kernel_rfl
theorem ZL.l0_eq (x7:Int) (x9:Int) (b0_0:List (List Int)) (b1_0:Int) (b1_1:List Int) (b2_0:Int) (b2_1:List Int) (r3:List (List Int)):ZL.l0 x7 x9 b0_0 b1_0 b1_1 b2_0 b2_1 r3=if x9 < x7 then(ZL.l1 x7 x9 0 b0_0 b1_0 b1_1 b2_0 b2_1 r3 ([]:List Int))else(some r3):=(Zm _ _ _ _).trans (by kernel_rfl)
theorem ZL.l1_eq (x7:Int) (x9:Int) (x11:Int) (b0_0:List (List Int)) (b1_0:Int) (b1_1:List Int) (b2_0:Int) (b2_1:List Int) (r3:List (List Int)) (r4:List Int):ZL.l1 x7 x9 x11 b0_0 b1_0 b1_1 b2_0 b2_1 r3 r4=if x11 < x7 then(if b1_0=0 then none else(if b1_0=0 then none else(if b1_0=0 then none else(if 0≤wrapI ((x9:Int).tdiv b1_0)then(if wrapI ((x9:Int).tdiv b1_0) < (b1_1.length:Int)then(if b1_0=0 then none else((ZaD.f b0_0 b2_0 b2_1 ([wrapI ((x9:Int).tdiv b1_0),wrapI ((x11:Int).tdiv b1_0)]:List Int)).bind fun t60=>if b1_0=0 then none else(if 0≤wrapI ((x9:Int).tdiv b1_0)then(if wrapI ((x9:Int).tdiv b1_0) < (b0_0.length:Int)then(if 0≤wrapI ((x11:Int).tdiv b1_0)then(if wrapI ((x11:Int).tdiv b1_0) < ((row b0_0 (wrapI ((x9:Int).tdiv b1_0))).length:Int)then(if r4.length+([wrapI ((wrapI (b1_0*(T b0_0 (wrapI ((x9:Int).tdiv b1_0)) (wrapI ((x11:Int).tdiv b1_0)))))+((wrapI ((wrapI (((x9:Int).tmod b1_0)+(wrapI ((rd b1_1 (wrapI ((x9:Int).tdiv b1_0)))*((x11:Int).tmod b1_0)))))+t60):Int).tmod b1_0))]:List Int).length≤17592186044416 then(ZL.l1 x7 x9 (wrapI (x11+1)) b0_0 b1_0 b1_1 b2_0 b2_1 r3 (r4++([wrapI ((wrapI (b1_0*(T b0_0 (wrapI ((x9:Int).tdiv b1_0)) (wrapI ((x11:Int).tdiv b1_0)))))+((wrapI ((wrapI (((x9:Int).tmod b1_0)+(wrapI ((rd b1_1 (wrapI ((x9:Int).tdiv b1_0)))*((x11:Int).tmod b1_0)))))+t60):Int).tmod b1_0))]:List Int)))else none)else none)else none)else none)else none)))else none)else none))))else(if r3.length+([r4]:List (List Int)).length≤5864062014805 then(ZL.l0 x7 (wrapI (x9+1)) b0_0 b1_0 b1_1 b2_0 b2_1 (r3++([r4]:List (List Int))))else none):=(Zm _ _ _ _).trans (by kernel_rfl)
noncomputable def ZL.con:Con:=⟨ZL.fn.ins,ZL.fn.outs,(List (List Int)),fun x=>ZL.f x.1 x.2.1 x.2.2.1 x.2.2.2.1 x.2.2.2.2.1,fun r=>((r,()),(()))⟩
theorem ZL.valid:Valid Tryz.prog 134 ZL.con:=fnV ZL.fn ZL.E ZL.enc ⟨ttOk,(Zf ZX.valid (Zf ZaD.valid Zap))⟩ Tryz.func134
end Go.Proofs.YthmcpmnhdbeahaaGreat.P
namespace Go.Proofs.YthmcpmnhdbeahaaGreat.P
open Go Go.RowKit Go.Proofs.YthmcpmnhdbeahaaGreat.D
noncomputable def Zac.E:Env:={ tt:=TT,con:=[(133,Zaq.con),(134,ZL.con)],frz:=[],rows:=[],live:=[],n:=20,pin:=0,nils:=[] }
noncomputable def Zac.fn:D.Fn:={ body:=Tryz.f51.body.getD .skip,res:=Tryz.f51.results.toList,ins:=[.agg [.v (.sl 27 (.sl 2 (.int .i64)))],.agg [.v (.int .i64),.v (.sl 2 (.int .i64))],.agg [.v (.int .i64),.v (.sl 2 (.int .i64))]],outs:=[.one (.own 27 true (.sl 2 (.int .i64))),.one (.v (.int .i64))] }
def Zac.enc (y:lsd (flats Zac.fn.outs)×lsd (ios Zac.fn.ins)):(List (List Int))×Int:=(y.1.1,y.1.2.1)
noncomputable def Zac.f (l0_0:List (List Int)) (a1_0:Int) (l1_1:List Int) (a2_0:Int) (l2_1:List Int):Option ((List (List Int))×Int):=denF Zac.E Zac.fn Zac.enc (l0_0,a1_0,l1_1,a2_0,l2_1,())
theorem Zac.f_eq (l0_0:List (List Int)) (a1_0:Int) (l1_1:List Int) (a2_0:Int) (l2_1:List Int):Zac.f l0_0 a1_0 l1_1 a2_0 l2_1=(Zaq.f l0_0 a1_0 l1_1 a2_0 l2_1 64).bind fun t12=>if t12=0 then((ZL.f l0_0 a1_0 l1_1 a2_0 l2_1).bind fun t19=>some (t19,0))else(some (([]:List (List Int)),t12)):=by kernel_rfl
noncomputable def Zac.con:Con:=⟨Zac.fn.ins,Zac.fn.outs,(List (List Int))×Int,fun x=>Zac.f x.1 x.2.1 x.2.2.1 x.2.2.2.1 x.2.2.2.2.1,fun r=>((r.1,r.2,()),(()))⟩
theorem Zac.valid:Valid Tryz.prog 51 Zac.con:=fnV Zac.fn Zac.E Zac.enc ⟨ttOk,(Zf Zaq.valid (Zf ZL.valid Zap))⟩ Tryz.func51
end Go.Proofs.YthmcpmnhdbeahaaGreat.P
namespace Go.Proofs.YthmcpmnhdbeahaaGreat.P
open Go Go.RowKit Go.Proofs.YthmcpmnhdbeahaaGreat.D
noncomputable def Za6.E:Env:={ tt:=TT,con:=[(16,Zae.con)],frz:=[],rows:=[],live:=[(4,[0,1,5])],n:=27,pin:=0,nils:=[] }
noncomputable def Za6.fn:D.Fn:={ body:=Tryz.f52.body.getD .skip,res:=Tryz.f52.results.toList,ins:=[.one (.v (.sl 27 (.sl 2 (.int .i64)))),.one (.v (.sl 27 (.sl 2 (.int .i64))))],outs:=[.one (.v .bool)] }
def Za6.enc (y:lsd (flats Za6.fn.outs)×lsd (ios Za6.fn.ins)):Bool:=y.1.1
noncomputable def Za6.f (l0:List (List Int)) (l1:List (List Int)):Option Bool:=denF Za6.E Za6.fn Za6.enc (l0,l1,())
noncomputable def Za6.l0 (x0:List (List Int)) (x1:List (List Int)) (x5:Int):Option Bool:=denAt Za6.E Za6.fn Za6.enc [1,1,0,1,0] { fr:=[(0,.lf (.sl (.sl 2 (.int .i64)) x0)),(1,.lf (.sl (.sl 2 (.int .i64)) x1)),(5,.lf (.int .i64 x5))],ob:=[],nx:=0 }
theorem Za6.f_eq (l0:List (List Int)) (l1:List (List Int)):Za6.f l0 l1=if(l0.length:Int)=(l1.length:Int)then(Za6.l0 l0 l1 0)else(some false):=by kernel_rfl
theorem Za6.l0_eq (x0:List (List Int)) (x1:List (List Int)) (x5:Int):Za6.l0 x0 x1 x5=if x5 < (x0.length:Int)then(if 0≤x5 then(if x5 < (x0.length:Int)then(if 0≤x5 then(if x5 < (x1.length:Int)then((Zae.f (row x0 x5) (row x1 x5)).bind fun t25=>if t25=true then(Za6.l0 x0 x1 (wrapI (x5+1)))else(some false))else none)else none)else none)else none)else(some true):=(Zm _ _ _ _).trans (by kernel_rfl)
noncomputable def Za6.con:Con:=⟨Za6.fn.ins,Za6.fn.outs,Bool,fun x=>Za6.f x.1 x.2.1,fun r=>((r,()),(()))⟩
theorem Za6.valid:Valid Tryz.prog 52 Za6.con:=fnV Za6.fn Za6.E Za6.enc ⟨ttOk,(Zf Zae.valid Zap)⟩ Tryz.func52
end Go.Proofs.YthmcpmnhdbeahaaGreat.P
namespace Go.Proofs.YthmcpmnhdbeahaaGreat.P
open Go Go.RowKit Go.Proofs.YthmcpmnhdbeahaaGreat.D
noncomputable def ZaC.E:Env:={ tt:=TT,con:=[],frz:=[],rows:=[],live:=[],n:=27,pin:=0,nils:=[] }
noncomputable def ZaC.fn:D.Fn:={ body:=Tryz.f212.body.getD .skip,res:=Tryz.f212.results.toList,ins:=[.non,.one (.v (.int .i64))],outs:=[.one (.own 2 true (.int .i64))] }
def ZaC.enc (y:lsd (flats ZaC.fn.outs)×lsd (ios ZaC.fn.ins)):(List Int):=y.1.1
noncomputable def ZaC.f (a1:Int):Option (List Int):=denF ZaC.E ZaC.fn ZaC.enc (a1,())
theorem ZaC.f_eq (a1:Int):ZaC.f a1=if a1 < 0 then none else(if(wrapI (a1 - (wrapI (0 - 0)))) > 0 then(if 0 < wrapI (a1 - (wrapI (0 - 0)))then(if(wrapI (a1 - (wrapI (0 - 0))):Int).toNat≤17592186044416 then(if 0 < ((List.replicate (wrapI (a1 - (wrapI (0 - 0))):Int).toNat (0:Int)).length:Int)then(if 0≤((List.replicate (wrapI (a1 - (wrapI (0 - 0))):Int).toNat (0:Int)).length:Int)then(some ((List.replicate (wrapI (a1 - (wrapI (0 - 0))):Int).toNat (0:Int)).take (0:Int).toNat))else none)else none)else none)else none)else(some ([]:List Int))):=by kernel_rfl
noncomputable def ZaC.con:Con:=⟨ZaC.fn.ins,ZaC.fn.outs,(List Int),fun x=>ZaC.f x.1,fun r=>((r,()),(()))⟩
theorem ZaC.valid:Valid Tryz.prog 212 ZaC.con:=fnV ZaC.fn ZaC.E ZaC.enc ⟨ttOk,Zap⟩ Tryz.func212
end Go.Proofs.YthmcpmnhdbeahaaGreat.P
namespace Go.Proofs.YthmcpmnhdbeahaaGreat.P
open Go Go.RowKit Go.Proofs.YthmcpmnhdbeahaaGreat.D
noncomputable def Zk.E:Env:={ tt:=TT,con:=[(212,ZaC.con)],frz:=[],rows:=[],live:=[(3,[0,3,9,10,11]),(11,[6,25,26,27])],n:=36,pin:=0,nils:=[] }
noncomputable def Zk.fn:D.Fn:={ body:=Tryz.f137.body.getD .skip,res:=Tryz.f137.results.toList,ins:=[.one (.v (.sl 27 (.sl 2 (.int .i64))))],outs:=[.one (.own 2 true (.int .i64))] }
def Zk.enc (y:lsd (flats Zk.fn.outs)×lsd (ios Zk.fn.ins)):(List Int):=y.1.1
noncomputable def Zk.f (l0:List (List Int)):Option (List Int):=denF Zk.E Zk.fn Zk.enc (l0,())
noncomputable def Zk.l0 (x0:List (List Int)) (x3:Int) (x9:List (List Int)) (x10:Int) (x11:Int):Option (List Int):=denAt Zk.E Zk.fn Zk.enc [1,1,0,1,0] { fr:=[(0,.lf (.sl (.sl 2 (.int .i64)) x0)),(3,.lf (.int .i64 x3)),(9,.lf (.sl (.sl 2 (.int .i64)) x9)),(10,.lf (.int .i64 x10)),(11,.lf (.int .i64 x11))],ob:=[],nx:=0 }
noncomputable def Zk.l1 (x25:List (List Int)) (x26:Int) (x27:Int) (r0:List Int):Option (List Int):=denAt Zk.E Zk.fn Zk.enc [1,1,1,1,0,1,0] { fr:=[(6,.lf (.own 0)),(25,.lf (.sl (.sl 2 (.int .i64)) x25)),(26,.lf (.int .i64 x26)),(27,.lf (.int .i64 x27))],ob:=[(0,.row 2 true (.int .i64) r0)],nx:=1 }
theorem Zk.f_eq (l0:List (List Int)):Zk.f l0=Zk.l0 l0 0 l0 (l0.length:Int) 0:=by kernel_rfl
theorem Zk.l0_eq (x0:List (List Int)) (x3:Int) (x9:List (List Int)) (x10:Int) (x11:Int):Zk.l0 x0 x3 x9 x10 x11=if x11 < x10 then(if 0≤x11 then(if x11 < (x9.length:Int)then(if(wrapI (x3+((row x9 x11).length:Int))) < 0 then none else(Zk.l0 x0 (wrapI (x3+((row x9 x11).length:Int))) x9 x10 (wrapI (x11+1))))else none)else none)else((ZaC.f x3).bind fun t24=>Zk.l1 x0 (x0.length:Int) 0 t24):=(Zm _ _ _ _).trans (by kernel_rfl)
theorem Zk.l1_eq (x25:List (List Int)) (x26:Int) (x27:Int) (r0:List Int):Zk.l1 x25 x26 x27 r0=if x27 < x26 then(if 0≤x27 then(if x27 < (x25.length:Int)then(if r0.length+(row x25 x27).length≤17592186044416 then(Zk.l1 x25 x26 (wrapI (x27+1)) (r0++(row x25 x27)))else none)else none)else none)else(some r0):=(Zm _ _ _ _).trans (by kernel_rfl)
noncomputable def Zk.con:Con:=⟨Zk.fn.ins,Zk.fn.outs,(List Int),fun x=>Zk.f x.1,fun r=>((r,()),(()))⟩
theorem Zk.valid:Valid Tryz.prog 137 Zk.con:=fnV Zk.fn Zk.E Zk.enc ⟨ttOk,(Zf ZaC.valid Zap)⟩ Tryz.func137
end Go.Proofs.YthmcpmnhdbeahaaGreat.P
namespace Go.Proofs.YthmcpmnhdbeahaaGreat.P
open Go Go.RowKit Go.Proofs.YthmcpmnhdbeahaaGreat.D
noncomputable def Zd.E:Env:={ tt:=TT,con:=[],frz:=[],rows:=[],live:=[(2,[0,1,7,8])],n:=19,pin:=0,nils:=[] }
noncomputable def Zd.fn:D.Fn:={ body:=Tryz.f219.body.getD .skip,res:=Tryz.f219.results.toList,ins:=[.one (.v (.sl 2 (.int .i64))),.one (.fn [(.int .i64)] .bool)],outs:=[.one (.v (.int .i64))] }
def Zd.enc (y:lsd (flats Zd.fn.outs)×lsd (ios Zd.fn.ins)):Int:=y.1.1
noncomputable def Zd.f (l0:List Int) (f1:Int→Option Bool):Option Int:=denF Zd.E Zd.fn Zd.enc (l0,fun x=>f1 x.1,())
noncomputable def Zd.l0 (x0:List Int) (fx1:Int→Option Bool) (x7:Int) (x8:Int):Option Int:=denAt Zd.E Zd.fn Zd.enc [1,0,1,0] { fr:=[(0,.lf (.sl (.int .i64) x0)),(1,.lf (.fn [(.int .i64)] .bool (fun x=>fx1 x.1))),(7,.lf (.int .i64 x7)),(8,.lf (.int .i64 x8))],ob:=[],nx:=0 }
theorem Zd.f_eq (l0:List Int) (f1:Int→Option Bool):Zd.f l0 f1=Zd.l0 l0 f1 (l0.length:Int) 0:=by kernel_rfl
theorem Zd.l0_eq (x0:List Int) (fx1:Int→Option Bool) (x7:Int) (x8:Int):Zd.l0 x0 fx1 x7 x8=if x8 < x7 then(if 0≤x8 then(if x8 < (x0.length:Int)then((fx1 (rd x0 x8)).bind fun t16=>if t16=true then(some x8)else(Zd.l0 x0 fx1 x7 (wrapI (x8+1))))else none)else none)else(some (-1)):=(Zm _ _ _ _).trans (by kernel_rfl)
noncomputable def Zd.con:Con:=⟨Zd.fn.ins,Zd.fn.outs,Int,fun x=>Zd.f x.1 (fun z0=>x.2.1 (z0,())),fun r=>((r,()),(()))⟩
theorem Zd.valid:Valid Tryz.prog 219 Zd.con:=fnV Zd.fn Zd.E Zd.enc ⟨ttOk,Zap⟩ Tryz.func219
end Go.Proofs.YthmcpmnhdbeahaaGreat.P
namespace Go.Proofs.YthmcpmnhdbeahaaGreat.P
open Go Go.RowKit Go.Proofs.YthmcpmnhdbeahaaGreat.D
noncomputable def Zz.E:Env:={ tt:=TT,con:=[(219,Zd.con)],frz:=[],rows:=[],live:=[],n:=9,pin:=0,nils:=[] }
noncomputable def Zz.fn:D.Fn:={ body:=Tryz.f147.body.getD .skip,res:=Tryz.f147.results.toList,ins:=[.one (.v (.sl 2 (.int .i64))),.one (.fn [(.int .i64)] .bool)],outs:=[.one (.v .bool)] }
def Zz.enc (y:lsd (flats Zz.fn.outs)×lsd (ios Zz.fn.ins)):Bool:=y.1.1
noncomputable def Zz.f (l0:List Int) (f1:Int→Option Bool):Option Bool:=denF Zz.E Zz.fn Zz.enc (l0,fun x=>f1 x.1,())
theorem Zz.f_eq (l0:List Int) (f1:Int→Option Bool):Zz.f l0 f1=(Zd.f l0 (fun z0=>(f1 z0).map fun z=>z)).bind fun t7=>some (decide (t7≥0)):=by kernel_rfl
noncomputable def Zz.con:Con:=⟨Zz.fn.ins,Zz.fn.outs,Bool,fun x=>Zz.f x.1 (fun z0=>x.2.1 (z0,())),fun r=>((r,()),(()))⟩
theorem Zz.valid:Valid Tryz.prog 147 Zz.con:=fnV Zz.fn Zz.E Zz.enc ⟨ttOk,(Zf Zd.valid Zap)⟩ Tryz.func147
end Go.Proofs.YthmcpmnhdbeahaaGreat.P
namespace Go.Proofs.YthmcpmnhdbeahaaGreat.P
open Go Go.RowKit Go.Proofs.YthmcpmnhdbeahaaGreat.D
noncomputable def Zba.E:Env:={ tt:=TT,con:=[],frz:=[],rows:=[],live:=[],n:=5,pin:=0,nils:=[] }
noncomputable def Zba.fn:D.Fn:={ body:=Tryz.f262.body.getD .skip,res:=Tryz.f262.results.toList,ins:=[.one (.v (.int .i64))],outs:=[.one (.v .bool)] }
def Zba.enc (y:lsd (flats Zba.fn.outs)×lsd (ios Zba.fn.ins)):Bool:=y.1.1
noncomputable def Zba.f (a0:Int):Option Bool:=denF Zba.E Zba.fn Zba.enc (a0,())
theorem Zba.f_eq (a0:Int):Zba.f a0=some (!decide (a0=0)):=by kernel_rfl
noncomputable def Zba.con:Con:=⟨Zba.fn.ins,Zba.fn.outs,Bool,fun x=>Zba.f x.1,fun r=>((r,()),(()))⟩
theorem Zba.valid:Valid Tryz.prog 262 Zba.con:=fnV Zba.fn Zba.E Zba.enc ⟨ttOk,Zap⟩ Tryz.func262
end Go.Proofs.YthmcpmnhdbeahaaGreat.P
namespace Go.Proofs.YthmcpmnhdbeahaaGreat.P
open Go Go.RowKit Go.Proofs.YthmcpmnhdbeahaaGreat.D
noncomputable def Zbh.E:Env:={ tt:=TT,con:=[(147,Zz.con),(262,Zba.con)],frz:=[],rows:=[],live:=[],n:=6,pin:=0,nils:=[] }
noncomputable def Zbh.fn:D.Fn:={ body:=Tryz.f216.body.getD .skip,res:=Tryz.f216.results.toList,ins:=[.one (.v (.sl 2 (.int .i64)))],outs:=[.one (.v .bool)] }
def Zbh.enc (y:lsd (flats Zbh.fn.outs)×lsd (ios Zbh.fn.ins)):Bool:=y.1.1
noncomputable def Zbh.f (l0:List Int):Option Bool:=denF Zbh.E Zbh.fn Zbh.enc (l0,())
theorem Zbh.f_eq (l0:List Int):Zbh.f l0=(Zz.f l0 (fun z0=>(Zba.f z0).map fun z=>z)).bind fun t4=>some (!decide (t4=true)):=by kernel_rfl
noncomputable def Zbh.con:Con:=⟨Zbh.fn.ins,Zbh.fn.outs,Bool,fun x=>Zbh.f x.1,fun r=>((r,()),(()))⟩
theorem Zbh.valid:Valid Tryz.prog 216 Zbh.con:=fnV Zbh.fn Zbh.E Zbh.enc ⟨ttOk,(Zf Zz.valid (Zf Zba.valid Zap))⟩ Tryz.func216
end Go.Proofs.YthmcpmnhdbeahaaGreat.P
namespace Go.Proofs.YthmcpmnhdbeahaaGreat.P
open Go Go.RowKit Go.Proofs.YthmcpmnhdbeahaaGreat.D
noncomputable def Zp.E:Env:={ tt:=TT,con:=[],frz:=[],rows:=[],live:=[(3,[0,1,3,4,11,17,18,19])],n:=54,pin:=0,nils:=[] }
noncomputable def Zp.fn:D.Fn:={ body:=Tryz.f247.body.getD .skip,res:=Tryz.f247.results.toList,ins:=[.ptr true 187 [.v (.int .i64),.v (.sl 27 (.sl 1000002 (.int .i64)))],.one (.v (.int .i64)),.one (.v (.sl 2 (.int .i64))),.one (.v (.int .i64)),.one (.v (.sl 2 (.int .i64)))],outs:=[.one (.own 2 true (.int .i64))] }
def Zp.enc (y:lsd (flats Zp.fn.outs)×lsd (ios Zp.fn.ins)):(List Int):=y.1.1
noncomputable def Zp.f (a0_0:Int) (l0_1:List (List Int)) (a1:Int) (l2:List Int) (a3:Int) (l4:List Int):Option (List Int):=denF Zp.E Zp.fn Zp.enc (a0_0,l0_1,a1,l2,a3,l4,())
noncomputable def Zp.l0 (x1:Int) (x3:Int) (x4:List Int) (x17:List Int) (x18:Int) (x19:Int) (b0_0:Int) (b0_1:List (List Int)) (r1:List Int):Option (List Int):=denAt Zp.E Zp.fn Zp.enc [1,1,0,1,0] { fr:=[(0,.lf (.box 0 0)),(1,.lf (.int .i64 x1)),(3,.lf (.int .i64 x3)),(4,.lf (.sl (.int .i64) x4)),(11,.lf (.own 1)),(17,.lf (.sl (.int .i64) x17)),(18,.lf (.int .i64 x18)),(19,.lf (.int .i64 x19))],ob:=[(0,.box 187 true [.int .i64 b0_0,.sl (.sl 1000002 (.int .i64)) b0_1]),(1,.row 2 true (.int .i64) r1)],nx:=2 }
theorem Zp.f_eq (a0_0:Int) (l0_1:List (List Int)) (a1:Int) (l2:List Int) (a3:Int) (l4:List Int):Zp.f a0_0 l0_1 a1 l2 a3 l4=if(l2.length:Int)=(l2.length:Int)then(if 0≤(l2.length:Int)then(if((l2.length:Int):Int).toNat≤17592186044416 then(Zp.l0 a1 a3 l4 l2 (l2.length:Int) 0 a0_0 l0_1 (List.replicate ((l2.length:Int):Int).toNat (0:Int)))else none)else none)else none:=by kernel_rfl
theorem Zp.l0_eq (x1:Int) (x3:Int) (x4:List Int) (x17:List Int) (x18:Int) (x19:Int) (b0_0:Int) (b0_1:List (List Int)) (r1:List Int):Zp.l0 x1 x3 x4 x17 x18 x19 b0_0 b0_1 r1=if x19 < x18 then(if 0≤x19 then(if x19 < (x17.length:Int)then(if 0≤x19 then(if x19 < (x4.length:Int)then(if b0_0=0 then none else(if b0_0=0 then none else(if 0≤x19 then(if x19 < (r1.length:Int)then(if 0≤x19 then(if x19 < (r1.length:Int)then(Zp.l0 x1 x3 x4 x17 x18 (wrapI (x19+1)) b0_0 b0_1 (r1.set (x19:Int).toNat ((wrapI (((wrapI ((wrapI (x1*(rd x17 x19)))+(wrapI (x3*(rd x4 x19)))):Int).tmod b0_0)+b0_0):Int).tmod b0_0)))else none)else none)else none)else none)))else none)else none)else none)else none)else(some r1):=(Zm _ _ _ _).trans (by kernel_rfl)
noncomputable def Zp.con:Con:=⟨Zp.fn.ins,Zp.fn.outs,(List Int),fun x=>Zp.f x.1 x.2.1 x.2.2.1 x.2.2.2.1 x.2.2.2.2.1 x.2.2.2.2.2.1,fun r=>((r,()),(()))⟩
theorem Zp.valid:Valid Tryz.prog 247 Zp.con:=fnV Zp.fn Zp.E Zp.enc ⟨ttOk,Zap⟩ Tryz.func247
end Go.Proofs.YthmcpmnhdbeahaaGreat.P
namespace Go.Proofs.YthmcpmnhdbeahaaGreat.P
open Go Go.RowKit Go.Proofs.YthmcpmnhdbeahaaGreat.D
noncomputable def ZV.E:Env:={ tt:=TT,con:=[(247,Zp.con)],frz:=[],rows:=[],live:=[(3,[0,1,6,18,19,20])],n:=51,pin:=1,nils:=[] }
noncomputable def ZV.fn:D.Fn:={ body:=Tryz.f261.body.getD .skip,res:=Tryz.f261.results.toList,ins:=[.ptr false 187 [.v (.int .i64),.own 27 false (.sl 1000002 (.int .i64))],.eat 2 true (.int .i64)],outs:=[.one (.own 2 true (.int .i64)),.one (.own 2 true (.int .i64))] }
def ZV.enc (y:lsd (flats ZV.fn.outs)×lsd (ios ZV.fn.ins)):(List Int)×(List Int)×Int×(List (List Int)):=(y.1.1,y.1.2.1,y.2.1,y.2.2.1)
noncomputable def ZV.f (a0_0:Int) (l0_1:List (List Int)) (l1:List Int):Option ((List Int)×(List Int)×Int×(List (List Int))):=denF ZV.E ZV.fn ZV.enc (a0_0,l0_1,l1,())
noncomputable def ZV.l0 (x19:Int) (x20:Int) (b0_0:Int) (r1:List (List Int)) (r2:List Int) (r3:List Int):Option ((List Int)×(List Int)×Int×(List (List Int))):=denAt ZV.E ZV.fn ZV.enc [1,1,0,1,0] { fr:=[(0,.lf (.box 0 0)),(1,.lf (.own 2)),(6,.lf (.own 3)),(18,.lf (.own 1)),(19,.lf (.int .i64 x19)),(20,.lf (.int .i64 x20))],ob:=[(0,.box 187 false [.int .i64 b0_0,.own 1]),(1,.row 27 false (.sl 1000002 (.int .i64)) r1),(2,.row 2 true (.int .i64) r2),(3,.row 2 true (.int .i64) r3)],nx:=4 }
theorem ZV.f_eq (a0_0:Int) (l0_1:List (List Int)) (l1:List Int):ZV.f a0_0 l0_1 l1=if(l0_1.length:Int)=(l0_1.length:Int)then(if 0≤(l0_1.length:Int)then(if((l0_1.length:Int):Int).toNat≤17592186044416 then(ZV.l0 (l0_1.length:Int) 0 a0_0 l0_1 l1 (List.replicate ((l0_1.length:Int):Int).toNat (0:Int)))else none)else none)else none:=by kernel_rfl
theorem ZV.l0_eq (x19:Int) (x20:Int) (b0_0:Int) (r1:List (List Int)) (r2:List Int) (r3:List Int):ZV.l0 x19 x20 b0_0 r1 r2 r3=if x20 < x19 then(if 0≤x20 then(if x20 < (r1.length:Int)then(if 0≤x20 then(if x20 < (r1.length:Int)then(if(row r1 x20).length=0 then(ZV.l0 x19 (wrapI (x20+1)) b0_0 r1 r2 r3)else(if 0 < (row r1 x20).length then(if 0≤x20 then(if x20 < (r2.length:Int)then(if 0≤x20 then(if x20 < (r2.length:Int)then(if 0≤x20 then(if x20 < ((row r1 x20).length:Int)then(if(T r1 x20 x20)=0 then none else(if 0≤x20 then(if x20 < (r3.length:Int)then(if 0≤x20 then(if x20 < (r3.length:Int)then(if 0≤x20 then(if x20 < ((r3.set (x20:Int).toNat (wrapI ((rd r2 x20:Int).tdiv (T r1 x20 x20)))).length:Int)then(if 0≤x20 then(if x20 < ((r3.set (x20:Int).toNat (wrapI ((rd r2 x20:Int).tdiv (T r1 x20 x20)))).length:Int)then((Zp.f b0_0 r1 1 r2 (wrapI (0 - (rd (r3.set (x20:Int).toNat (wrapI ((rd r2 x20:Int).tdiv (T r1 x20 x20)))) x20))) (row r1 x20)).bind fun t47=>ZV.l0 x19 (wrapI (x20+1)) b0_0 r1 t47 (r3.set (x20:Int).toNat (wrapI ((rd r2 x20:Int).tdiv (T r1 x20 x20)))))else none)else none)else none)else none)else none)else none)else none)else none))else none)else none)else none)else none)else none)else none)else none))else none)else none)else none)else none)else(some (r2,r3,b0_0,r1)):=(Zm _ _ _ _).trans (by kernel_rfl)
noncomputable def ZV.con:Con:=⟨ZV.fn.ins,ZV.fn.outs,(List Int)×(List Int)×Int×(List (List Int)),fun x=>ZV.f x.1 x.2.1 x.2.2.1,fun r=>((r.1,r.2.1,()),(r.2.2.1,r.2.2.2,()))⟩
theorem ZV.valid:Valid Tryz.prog 261 ZV.con:=fnV ZV.fn ZV.E ZV.enc ⟨ttOk,(Zf Zp.valid Zap)⟩ Tryz.func261
end Go.Proofs.YthmcpmnhdbeahaaGreat.P
namespace Go.Proofs.YthmcpmnhdbeahaaGreat.P
open Go Go.RowKit Go.Proofs.YthmcpmnhdbeahaaGreat.D
noncomputable def ZN.E:Env:={ tt:=TT,con:=[],frz:=[],rows:=[],live:=[],n:=8,pin:=0,nils:=[] }
noncomputable def ZN.fn:D.Fn:={ body:=Tryz.f263.body.getD .skip,res:=Tryz.f263.results.toList,ins:=[.one (.v (.sl 2 (.int .i64)))],outs:=[.one (.own 2 true (.int .i64))] }
def ZN.enc (y:lsd (flats ZN.fn.outs)×lsd (ios ZN.fn.ins)):(List Int):=y.1.1
noncomputable def ZN.f (l0:List Int):Option (List Int):=denF ZN.E ZN.fn ZN.enc (l0,())
theorem ZN.f_eq (l0:List Int):ZN.f l0=if 0 < l0.length then(if([]:List Int).length+l0.length≤17592186044416 then(some (([]:List Int)++l0))else none)else none:=by kernel_rfl
noncomputable def ZN.con:Con:=⟨ZN.fn.ins,ZN.fn.outs,(List Int),fun x=>ZN.f x.1,fun r=>((r,()),(()))⟩
theorem ZN.valid:Valid Tryz.prog 263 ZN.con:=fnV ZN.fn ZN.E ZN.enc ⟨ttOk,Zap⟩ Tryz.func263
theorem Zbk.emp_eq:∀b,denE ZN.E ZN.fn ZN.enc (empSt b)=some ([]:List Int):=fun b=>by cases b <;> kernel_rfl
noncomputable def Zbk.f (l0:List Int):Option (List Int):=if l0.length=0 then some []else ZN.f l0
theorem Zbk.f_eq (l0:List Int):Zbk.f l0=if l0.length=0 then some []else(if 0 < l0.length then(if([]:List Int).length+l0.length≤17592186044416 then(some (([]:List Int)++l0))else none)else none):=by unfold Zbk.f;rw[ZN.f_eq]
noncomputable def Zbk.con:Con:=⟨ZN.fn.ins,ZN.fn.outs,(List Int),fun x=>Zbk.f x.1,fun r=>((r,()),(()))⟩
theorem Zbk.valid:Valid Tryz.prog 263 Zbk.con:=Zje (E:=ZN.E) (enc:=ZN.enc) ⟨ttOk,Zap⟩ (Checked.mixed Tryz.checked) ⟨Tryz.func263,by kernel_rfl,by kernel_rfl,by kernel_rfl,by kernel_rfl,by decide,by kernel_rfl,by kernel_rfl⟩ (fun _=>rfl) Zbk.emp_eq ZN.valid
end Go.Proofs.YthmcpmnhdbeahaaGreat.P
namespace Go.Proofs.YthmcpmnhdbeahaaGreat.P
open Go Go.RowKit Go.Proofs.YthmcpmnhdbeahaaGreat.D
noncomputable def ZaH.E:Env:={ tt:=TT,con:=[(263,Zbk.con),(261,ZV.con)],frz:=[],rows:=[],live:=[],n:=19,pin:=1,nils:=[] }
noncomputable def ZaH.fn:D.Fn:={ body:=Tryz.f217.body.getD .skip,res:=Tryz.f217.results.toList,ins:=[.ptr false 187 [.v (.int .i64),.own 27 false (.sl 1000002 (.int .i64))],.agg [.v (.int .i64),.v (.sl 2 (.int .i64))]],outs:=[.agg [.v (.int .i64),.own 2 true (.int .i64)]] }
def ZaH.enc (y:lsd (flats ZaH.fn.outs)×lsd (ios ZaH.fn.ins)):Int×(List Int)×Int×(List (List Int)):=(y.1.1,y.1.2.1,y.2.1,y.2.2.1)
noncomputable def ZaH.f (a0_0:Int) (l0_1:List (List Int)) (a1_0:Int) (l1_1:List Int):Option (Int×(List Int)×Int×(List (List Int))):=denF ZaH.E ZaH.fn ZaH.enc (a0_0,l0_1,a1_0,l1_1,())
theorem ZaH.f_eq (a0_0:Int) (l0_1:List (List Int)) (a1_0:Int) (l1_1:List Int):ZaH.f a0_0 l0_1 a1_0 l1_1=(Zbk.f l1_1).bind fun t11=>(ZV.f a0_0 l0_1 t11).bind fun t12=>some (a1_0,t12.1,t12.2.2.1,t12.2.2.2):=by kernel_rfl
noncomputable def ZaH.con:Con:=⟨ZaH.fn.ins,ZaH.fn.outs,Int×(List Int)×Int×(List (List Int)),fun x=>ZaH.f x.1 x.2.1 x.2.2.1 x.2.2.2.1,fun r=>((r.1,r.2.1,()),(r.2.2.1,r.2.2.2,()))⟩
theorem ZaH.valid:Valid Tryz.prog 217 ZaH.con:=fnV ZaH.fn ZaH.E ZaH.enc ⟨ttOk,(Zf Zbk.valid (Zf ZV.valid Zap))⟩ Tryz.func217
end Go.Proofs.YthmcpmnhdbeahaaGreat.P
namespace Go.Proofs.YthmcpmnhdbeahaaGreat.P
open Go Go.RowKit Go.Proofs.YthmcpmnhdbeahaaGreat.D
noncomputable def ZaW.E:Env:={ tt:=TT,con:=[],frz:=[],rows:=[7],live:=[],n:=10,pin:=0,nils:=[7] }
noncomputable def ZaW.fn:D.Fn:={ body:=Tryz.f227.body.getD .skip,res:=Tryz.f227.results.toList,ins:=[.one (.v (.int .i64)),.one (.v (.int .i64))],outs:=[.ptr false 187 [.v (.int .i64),.own 27 false (.sl 1000002 (.int .i64))]] }
def ZaW.enc (y:lsd (flats ZaW.fn.outs)×lsd (ios ZaW.fn.ins)):Int×(List (List Int)):=(y.1.1,y.1.2.1)
noncomputable def ZaW.f (a0:Int) (a1:Int):Option (Int×(List (List Int))):=denF ZaW.E ZaW.fn ZaW.enc (a0,a1,())
theorem ZaW.f_eq (a0:Int) (a1:Int):ZaW.f a0 a1=if a1=a1 then(if 0≤a1 then(if(a1:Int).toNat≤5864062014805 then(some (a0,List.replicate (a1:Int).toNat ([]:List Int)))else none)else none)else none:=by kernel_rfl
noncomputable def ZaW.con:Con:=⟨ZaW.fn.ins,ZaW.fn.outs,Int×(List (List Int)),fun x=>ZaW.f x.1 x.2.1,fun r=>((r.1,r.2,()),(()))⟩
theorem ZaW.valid:Valid Tryz.prog 227 ZaW.con:=fnV ZaW.fn ZaW.E ZaW.enc ⟨ttOk,Zap⟩ Tryz.func227
end Go.Proofs.YthmcpmnhdbeahaaGreat.P
namespace Go.Proofs.YthmcpmnhdbeahaaGreat.P
open Go Go.RowKit Go.Proofs.YthmcpmnhdbeahaaGreat.D
noncomputable def Zav.E:Env:={ tt:=TT,con:=[],frz:=[],rows:=[],live:=[],n:=5,pin:=0,nils:=[] }
noncomputable def Zav.fn:D.Fn:={ body:=Tryz.f266.body.getD .skip,res:=Tryz.f266.results.toList,ins:=[.one (.v (.int .i64))],outs:=[.one (.v .bool)] }
def Zav.enc (y:lsd (flats Zav.fn.outs)×lsd (ios Zav.fn.ins)):Bool:=y.1.1
noncomputable def Zav.f (a0:Int):Option Bool:=denF Zav.E Zav.fn Zav.enc (a0,())
theorem Zav.f_eq (a0:Int):Zav.f a0=some (!decide (a0=0)):=by kernel_rfl
noncomputable def Zav.con:Con:=⟨Zav.fn.ins,Zav.fn.outs,Bool,fun x=>Zav.f x.1,fun r=>((r,()),(()))⟩
theorem Zav.valid:Valid Tryz.prog 266 Zav.con:=fnV Zav.fn Zav.E Zav.enc ⟨ttOk,Zap⟩ Tryz.func266
end Go.Proofs.YthmcpmnhdbeahaaGreat.P
namespace Go.Proofs.YthmcpmnhdbeahaaGreat.P
open Go Go.RowKit Go.Proofs.YthmcpmnhdbeahaaGreat.D
noncomputable def Zq.E:Env:={ tt:=TT,con:=[(152,Zbs.con)],frz:=[],rows:=[],live:=[(3,[0,1,2,9,23,24]),(6,[0,1,2,9,10,23,24,30,31])],n:=55,pin:=0,nils:=[] }
noncomputable def Zq.fn:D.Fn:={ body:=Tryz.f267.body.getD .skip,res:=Tryz.f267.results.toList,ins:=[.ptr true 187 [.v (.int .i64),.v (.sl 27 (.sl 1000002 (.int .i64)))],.one (.v (.int .i64)),.one (.v (.int .i64))],outs:=[.one (.v (.int .i64)),.one (.v (.int .i64)),.one (.v (.int .i64))] }
def Zq.enc (y:lsd (flats Zq.fn.outs)×lsd (ios Zq.fn.ins)):Int×Int×Int:=(y.1.1,y.1.2.1,y.1.2.2.1)
noncomputable def Zq.f (a0_0:Int) (l0_1:List (List Int)) (a1:Int) (a2:Int):Option (Int×Int×Int):=denF Zq.E Zq.fn Zq.enc (a0_0,l0_1,a1,a2,())
noncomputable def Zq.l0 (x1:Int) (x2:Int) (x9:Int) (x23:Int) (x24:Int) (b0_0:Int) (b0_1:List (List Int)):Option (Int×Int×Int):=denAt Zq.E Zq.fn Zq.enc [1,1,0,1,0] { fr:=[(0,.lf (.box 0 0)),(1,.lf (.int .i64 x1)),(2,.lf (.int .i64 x2)),(9,.lf (.int .i64 x9)),(23,.lf (.int .i64 x23)),(24,.lf (.int .i64 x24))],ob:=[(0,.box 187 true [.int .i64 b0_0,.sl (.sl 1000002 (.int .i64)) b0_1])],nx:=1 }
noncomputable def Zq.l1 (x1:Int) (x2:Int) (x9:Int) (x10:Int) (x23:Int) (x24:Int) (x30:Int) (x31:Int) (b0_0:Int) (b0_1:List (List Int)):Option (Int×Int×Int):=denAt Zq.E Zq.fn Zq.enc [1,1,0,1,0,0,1,1,0,0,1,1,0] { fr:=[(0,.lf (.box 0 0)),(1,.lf (.int .i64 x1)),(2,.lf (.int .i64 x2)),(9,.lf (.int .i64 x9)),(10,.lf (.int .i64 x10)),(23,.lf (.int .i64 x23)),(24,.lf (.int .i64 x24)),(30,.lf (.int .i64 x30)),(31,.lf (.int .i64 x31))],ob:=[(0,.box 187 true [.int .i64 b0_0,.sl (.sl 1000002 (.int .i64)) b0_1])],nx:=1 }
theorem Zq.f_eq (a0_0:Int) (l0_1:List (List Int)) (a1:Int) (a2:Int):Zq.f a0_0 l0_1 a1 a2=(Zbs.f a1 a2).bind fun t14=>(Zbs.f t14 a0_0).bind fun t19=>Zq.l0 a1 a2 t19 a0_0 0 a0_0 l0_1:=by kernel_rfl
theorem Zq.l0_eq (x1:Int) (x2:Int) (x9:Int) (x23:Int) (x24:Int) (b0_0:Int) (b0_1:List (List Int)):Zq.l0 x1 x2 x9 x23 x24 b0_0 b0_1=if x24 < x23 then(Zq.l1 x1 x2 x9 x24 x23 x24 b0_0 0 b0_0 b0_1)else(some (0,0,x9)):=(Zm _ _ _ _).trans (by kernel_rfl)
theorem Zq.l1_eq (x1:Int) (x2:Int) (x9:Int) (x10:Int) (x23:Int) (x24:Int) (x30:Int) (x31:Int) (b0_0:Int) (b0_1:List (List Int)):Zq.l1 x1 x2 x9 x10 x23 x24 x30 x31 b0_0 b0_1=if x31 < x30 then(if b0_0=0 then none else(if((wrapI ((wrapI ((wrapI (x10*x1))+(wrapI (x31*x2)))) - x9):Int).tmod b0_0)=0 then(some (x10,x31,x9))else(Zq.l1 x1 x2 x9 x10 x23 x24 x30 (wrapI (x31+1)) b0_0 b0_1)))else(Zq.l0 x1 x2 x9 x23 (wrapI (x24+1)) b0_0 b0_1):=(Zm _ _ _ _).trans (by kernel_rfl)
noncomputable def Zq.con:Con:=⟨Zq.fn.ins,Zq.fn.outs,Int×Int×Int,fun x=>Zq.f x.1 x.2.1 x.2.2.1 x.2.2.2.1,fun r=>((r.1,r.2.1,r.2.2,()),(()))⟩
theorem Zq.valid:Valid Tryz.prog 267 Zq.con:=fnV Zq.fn Zq.E Zq.enc ⟨ttOk,(Zf Zbs.valid Zap)⟩ Tryz.func267
end Go.Proofs.YthmcpmnhdbeahaaGreat.P
namespace Go.Proofs.YthmcpmnhdbeahaaGreat.P
open Go Go.RowKit Go.Proofs.YthmcpmnhdbeahaaGreat.D
noncomputable def Zx.E:Env:={ tt:=TT,con:=[(219,Zd.con),(266,Zav.con),(267,Zq.con),(247,Zp.con)],frz:=[43,75,97,116,127,137],rows:=[13,76,138],live:=[(1,[0,4]),(9,[0,4,5,6,7])],n:=140,pin:=1,nils:=[] }
noncomputable def Zx.fn:D.Fn:={ body:=Tryz.f229.body.getD .skip,res:=Tryz.f229.results.toList,ins:=[.ptr false 187 [.v (.int .i64),.own 27 false (.sl 1000002 (.int .i64))],.one (.v (.sl 2 (.int .i64)))],outs:=[] }
def Zx.enc (y:lsd (flats Zx.fn.outs)×lsd (ios Zx.fn.ins)):Int×(List (List Int)):=(y.2.1,y.2.2.1)
noncomputable def Zx.f (a0_0:Int) (l0_1:List (List Int)) (l1:List Int):Option (Int×(List (List Int))):=denF Zx.E Zx.fn Zx.enc (a0_0,l0_1,l1,())
noncomputable def Zx.l0 (b0_0:Int) (r1:List (List Int)) (r2:List (List Int)):Option (Int×(List (List Int))):=denAt Zx.E Zx.fn Zx.enc [1,0] { fr:=[(0,.lf (.box 0 0)),(4,.lf (.own 2))],ob:=[(0,.box 187 false [.int .i64 b0_0,.own 1]),(1,.row 27 false (.sl 1000002 (.int .i64)) r1),(2,.row 27 false (.sl 2 (.int .i64)) r2)],nx:=3 }
noncomputable def Zx.j1 (x5:List Int) (x6:Int) (x7:List Int) (b0_0:Int) (r1:List (List Int)) (r2:List (List Int)):Option (Int×(List (List Int))):=denAt Zx.E Zx.fn Zx.enc [1,0,0,1,0,1,1,1,1,1,1] { fr:=[(0,.lf (.box 0 0)),(4,.lf (.own 2)),(5,.lf (.sl (.int .i64) x5)),(6,.lf (.int .i64 x6)),(7,.lf (.sl (.int .i64) x7))],ob:=[(0,.box 187 false [.int .i64 b0_0,.own 1]),(1,.row 27 false (.sl 1000002 (.int .i64)) r1),(2,.row 27 false (.sl 2 (.int .i64)) r2)],nx:=3 }
theorem Zx.f_eq (a0_0:Int) (l0_1:List (List Int)) (l1:List Int):Zx.f a0_0 l0_1 l1=Zx.l0 a0_0 l0_1 ([l1]:List (List Int)):=by kernel_rfl
theorem Zx.l0_eq (b0_0:Int) (r1:List (List Int)) (r2:List (List Int)):Zx.l0 b0_0 r1 r2=if(r2.length:Int) > 0 then(if 0≤wrapI ((r2.length:Int) - 1)then(if wrapI ((r2.length:Int) - 1) < (r2.length:Int)then(if 0≤wrapI ((r2.length:Int) - 1)then(if wrapI ((r2.length:Int) - 1) < (r2.length:Int)then(if 0 < (r2.length:Int)then(if 0≤wrapI ((r2.length:Int) - 1)then(if wrapI ((r2.length:Int) - 1)≤(r2.length:Int)then((Zd.f (row r2 (wrapI ((r2.length:Int) - 1))) (fun z0=>(Zav.f z0).map fun z=>z)).bind fun t29=>if t29 < 0 then(Zx.l0 b0_0 r1 (r2.take (wrapI ((r2.length:Int) - 1):Int).toNat))else(if 0≤t29 then(if t29 < (r1.length:Int)then(if 0≤t29 then(if t29 < (r1.length:Int)then(if(row r1 t29).length=0 then(if((row r2 (wrapI ((r2.length:Int) - 1))).length:Int)=((row r2 (wrapI ((r2.length:Int) - 1))).length:Int)then(if 0≤((row r2 (wrapI ((r2.length:Int) - 1))).length:Int)then(if(((row r2 (wrapI ((r2.length:Int) - 1))).length:Int):Int).toNat≤17592186044416 then(Zx.j1 (row r2 (wrapI ((r2.length:Int) - 1))) t29 (List.replicate (((row r2 (wrapI ((r2.length:Int) - 1))).length:Int):Int).toNat (0:Int)) b0_0 r1 (r2.take (wrapI ((r2.length:Int) - 1):Int).toNat))else none)else none)else none)else(if 0 < (row r1 t29).length then(Zx.j1 (row r2 (wrapI ((r2.length:Int) - 1))) t29 (row r1 t29) b0_0 r1 (r2.take (wrapI ((r2.length:Int) - 1):Int).toNat))else none))else none)else none)else none)else none))else none)else none)else none)else none)else none)else none)else none)else(some (b0_0,r1)):=(Zm _ _ _ _).trans (by kernel_rfl)
theorem Zx.j1_eq (x5:List Int) (x6:Int) (x7:List Int) (b0_0:Int) (r1:List (List Int)) (r2:List (List Int)):Zx.j1 x5 x6 x7 b0_0 r1 r2=if 0≤x6 then(if x6 < (x7.length:Int)then(if(rd x7 x6)=0 then(if 0≤x6 then(if x6 < (x7.length:Int)then(if 0≤x6 then(if x6 < (x5.length:Int)then((Zq.f b0_0 r1 (rd x7 x6) (rd x5 x6)).bind fun t88=>(Zp.f b0_0 r1 t88.1 x7 t88.2.1 x5).bind fun t97=>if 0≤x6 then(if x6 < (r1.length:Int)then(if 0≤x6 then(if x6 < (r1.length:Int)then(if 0 < t97.length then(if 0≤x6 then(if x6 < (x7.length:Int)then(if t88.2.2=0 then none else((Zp.f b0_0 (r1.set (x6:Int).toNat t97) 1 x7 (wrapI ((wrapI (0 - (rd x7 x6)):Int).tdiv t88.2.2)) t97).bind fun t116=>if 0≤x6 then(if x6 < (x5.length:Int)then(if t88.2.2=0 then none else((Zp.f b0_0 (r1.set (x6:Int).toNat t97) 1 x5 (wrapI ((wrapI (0 - (rd x5 x6)):Int).tdiv t88.2.2)) t97).bind fun t127=>if t88.2.2=0 then none else((Zp.f b0_0 (r1.set (x6:Int).toNat t97) (wrapI ((b0_0:Int).tdiv t88.2.2)) t97 0 t97).bind fun t137=>if r2.length+([t116,t127,t137]:List (List Int)).length≤5864062014805 then(Zx.l0 b0_0 (r1.set (x6:Int).toNat t97) (r2++([t116,t127,t137]:List (List Int))))else none)))else none)else none))else none)else none)else none)else none)else none)else none)else none)else none)else none)else none)else none)else(if 0≤x6 then(if x6 < (x5.length:Int)then(if 0≤x6 then(if x6 < (x7.length:Int)then(if(rd x7 x6)=0 then none else(if((rd x5 x6:Int).tmod (rd x7 x6))=0 then(if 0≤x6 then(if x6 < (x5.length:Int)then(if 0≤x6 then(if x6 < (x7.length:Int)then(if(rd x7 x6)=0 then none else((Zp.f b0_0 r1 1 x5 (wrapI ((wrapI (0 - (rd x5 x6)):Int).tdiv (rd x7 x6))) x7).bind fun t75=>if r2.length+([t75]:List (List Int)).length≤5864062014805 then(Zx.l0 b0_0 r1 (r2++([t75]:List (List Int))))else none))else none)else none)else none)else none)else(if 0≤x6 then(if x6 < (x7.length:Int)then(if 0≤x6 then(if x6 < (x5.length:Int)then((Zq.f b0_0 r1 (rd x7 x6) (rd x5 x6)).bind fun t88=>(Zp.f b0_0 r1 t88.1 x7 t88.2.1 x5).bind fun t97=>if 0≤x6 then(if x6 < (r1.length:Int)then(if 0≤x6 then(if x6 < (r1.length:Int)then(if 0 < t97.length then(if 0≤x6 then(if x6 < (x7.length:Int)then(if t88.2.2=0 then none else((Zp.f b0_0 (r1.set (x6:Int).toNat t97) 1 x7 (wrapI ((wrapI (0 - (rd x7 x6)):Int).tdiv t88.2.2)) t97).bind fun t116=>if 0≤x6 then(if x6 < (x5.length:Int)then(if t88.2.2=0 then none else((Zp.f b0_0 (r1.set (x6:Int).toNat t97) 1 x5 (wrapI ((wrapI (0 - (rd x5 x6)):Int).tdiv t88.2.2)) t97).bind fun t127=>if t88.2.2=0 then none else((Zp.f b0_0 (r1.set (x6:Int).toNat t97) (wrapI ((b0_0:Int).tdiv t88.2.2)) t97 0 t97).bind fun t137=>if r2.length+([t116,t127,t137]:List (List Int)).length≤5864062014805 then(Zx.l0 b0_0 (r1.set (x6:Int).toNat t97) (r2++([t116,t127,t137]:List (List Int))))else none)))else none)else none))else none)else none)else none)else none)else none)else none)else none)else none)else none)else none)else none)))else none)else none)else none)else none))else none)else none:=by kernel_rfl
noncomputable def Zx.con:Con:=⟨Zx.fn.ins,Zx.fn.outs,Int×(List (List Int)),fun x=>Zx.f x.1 x.2.1 x.2.2.1,fun r=>((()),(r.1,r.2,()))⟩
theorem Zx.valid:Valid Tryz.prog 229 Zx.con:=fnV Zx.fn Zx.E Zx.enc ⟨ttOk,(Zf Zd.valid (Zf Zav.valid (Zf Zq.valid (Zf Zp.valid Zap))))⟩ Tryz.func229
end Go.Proofs.YthmcpmnhdbeahaaGreat.P
namespace Go.Proofs.YthmcpmnhdbeahaaGreat.P
open Go Go.RowKit Go.Proofs.YthmcpmnhdbeahaaGreat.D
noncomputable def Zax.E:Env:={ tt:=TT,con:=[(228,ZaT.con),(227,ZaW.con),(211,Zbm.con),(192,ZaK.con),(137,Zk.con),(229,Zx.con)],frz:=[46],rows:=[],live:=[(5,[2,3,4,8,10,26,27])],n:=51,pin:=0,nils:=[] }
noncomputable def Zax.fn:D.Fn:={ body:=Tryz.f223.body.getD .skip,res:=Tryz.f223.results.toList,ins:=[.agg [.v (.sl 27 (.sl 2 (.int .i64)))],.agg [.v (.int .i64),.v (.sl 2 (.int .i64))],.one (.v (.int .i64))],outs:=[.ptr false 187 [.v (.int .i64),.own 27 false (.sl 1000002 (.int .i64))],.one (.v (.int .i64))] }
def Zax.enc (y:lsd (flats Zax.fn.outs)×lsd (ios Zax.fn.ins)):Int×(List (List Int))×Int:=(y.1.1,y.1.2.1,y.1.2.2.1)
noncomputable def Zax.f (l0_0:List (List Int)) (a1_0:Int) (l1_1:List Int) (a2:Int):Option (Int×(List (List Int))×Int):=denF Zax.E Zax.fn Zax.enc (l0_0,a1_0,l1_1,a2,())
noncomputable def Zax.l0 (x2:Int) (x8:Int) (x26:Int) (x27:Int) (b0_0:List (List Int)) (b1_0:Int) (b1_1:List Int) (b2_0:Int) (r3:List (List Int)):Option (Int×(List (List Int))×Int):=denAt Zax.E Zax.fn Zax.enc [1,1,1,1,0,1,0] { fr:=[(2,.lf (.int .i64 x2)),(3,.lf (.box 0 0)),(4,.lf (.box 1 0)),(8,.lf (.int .i64 x8)),(10,.lf (.box 2 0)),(26,.lf (.int .i64 x26)),(27,.lf (.int .i64 x27))],ob:=[(0,.box 26 false [.sl (.sl 2 (.int .i64)) b0_0]),(1,.box 29 false [.int .i64 b1_0,.sl (.int .i64) b1_1]),(2,.box 187 false [.int .i64 b2_0,.own 3]),(3,.row 27 false (.sl 1000002 (.int .i64)) r3)],nx:=4 }
theorem Zax.f_eq (l0_0:List (List Int)) (a1_0:Int) (l1_1:List Int) (a2:Int):Zax.f l0_0 a1_0 l1_1 a2=(ZaT.f l0_0 (wrapI (a2+1))).bind fun t16=>(ZaT.f l0_0 a2).bind fun t19=>(ZaW.f a1_0 (wrapI (t16+t19))).bind fun t25=>Zax.l0 a2 t16 t19 0 l0_0 a1_0 l1_1 t25.1 t25.2:=by kernel_rfl
theorem Zax.l0_eq (x2:Int) (x8:Int) (x26:Int) (x27:Int) (b0_0:List (List Int)) (b1_0:Int) (b1_1:List Int) (b2_0:Int) (r3:List (List Int)):Zax.l0 x2 x8 x26 x27 b0_0 b1_0 b1_1 b2_0 r3=if x27 < x26 then((Zbm.f b0_0 x2).bind fun t32=>if 0≤x27 then(if x27 < (t32.2.length:Int)then(if 0≤x27 then(if x27 < (t32.2.length:Int)then((ZaK.f b0_0 b1_0 b1_1 t32.1 (t32.2.set (x27:Int).toNat 1)).bind fun t41=>(Zk.f ([t41.2,t32.2.set (x27:Int).toNat 1]:List (List Int))).bind fun t46=>(Zx.f b2_0 r3 t46).bind fun t47=>Zax.l0 x2 x8 x26 (wrapI (x27+1)) b0_0 b1_0 b1_1 t47.1 t47.2)else none)else none)else none)else none)else(some (b2_0,r3,x8)):=(Zm _ _ _ _).trans (by kernel_rfl)
noncomputable def Zax.con:Con:=⟨Zax.fn.ins,Zax.fn.outs,Int×(List (List Int))×Int,fun x=>Zax.f x.1 x.2.1 x.2.2.1 x.2.2.2.1,fun r=>((r.1,r.2.1,r.2.2,()),(()))⟩
theorem Zax.valid:Valid Tryz.prog 223 Zax.con:=fnV Zax.fn Zax.E Zax.enc ⟨ttOk,(Zf ZaT.valid (Zf ZaW.valid (Zf Zbm.valid (Zf ZaK.valid (Zf Zk.valid (Zf Zx.valid Zap))))))⟩ Tryz.func223
end Go.Proofs.YthmcpmnhdbeahaaGreat.P
namespace Go.Proofs.YthmcpmnhdbeahaaGreat.P
open Go Go.RowKit Go.Proofs.YthmcpmnhdbeahaaGreat.D
noncomputable def Z7.E:Env:={ tt:=TT,con:=[(227,ZaW.con)],frz:=[],rows:=[],live:=[(3,[0,1,5,6])],n:=55,pin:=1,nils:=[] }
noncomputable def Z7.fn:D.Fn:={ body:=Tryz.f224.body.getD .skip,res:=Tryz.f224.results.toList,ins:=[.ptr false 187 [.v (.int .i64),.own 27 false (.sl 1000002 (.int .i64))],.one (.v (.int .i64))],outs:=[.ptr false 187 [.v (.int .i64),.own 27 false (.sl 1000002 (.int .i64))]] }
def Z7.enc (y:lsd (flats Z7.fn.outs)×lsd (ios Z7.fn.ins)):Int×(List (List Int))×Int×(List (List Int)):=(y.1.1,y.1.2.1,y.2.1,y.2.2.1)
noncomputable def Z7.f (a0_0:Int) (l0_1:List (List Int)) (a1:Int):Option (Int×(List (List Int))×Int×(List (List Int))):=denF Z7.E Z7.fn Z7.enc (a0_0,l0_1,a1,())
noncomputable def Z7.l0 (x1:Int) (x6:Int) (b0_0:Int) (r1:List (List Int)) (b2_0:Int) (r3:List (List Int)):Option (Int×(List (List Int))×Int×(List (List Int))):=denAt Z7.E Z7.fn Z7.enc [1,1,0,1,0] { fr:=[(0,.lf (.box 0 0)),(1,.lf (.int .i64 x1)),(5,.lf (.box 2 0)),(6,.lf (.int .i64 x6))],ob:=[(0,.box 187 false [.int .i64 b0_0,.own 1]),(1,.row 27 false (.sl 1000002 (.int .i64)) r1),(2,.box 187 false [.int .i64 b2_0,.own 3]),(3,.row 27 false (.sl 1000002 (.int .i64)) r3)],nx:=4 }
theorem Z7.f_eq (a0_0:Int) (l0_1:List (List Int)) (a1:Int):Z7.f a0_0 l0_1 a1=(ZaW.f a0_0 (wrapI ((l0_1.length:Int) - a1))).bind fun t18=>Z7.l0 a1 a1 a0_0 l0_1 t18.1 t18.2:=by kernel_rfl
theorem Z7.l0_eq (x1:Int) (x6:Int) (b0_0:Int) (r1:List (List Int)) (b2_0:Int) (r3:List (List Int)):Z7.l0 x1 x6 b0_0 r1 b2_0 r3=if x6 < (r1.length:Int)then(if 0≤x6 then(if x6 < (r1.length:Int)then(if 0≤x6 then(if x6 < (r1.length:Int)then(if(row r1 x6).length=0 then(Z7.l0 x1 (wrapI (x6+1)) b0_0 r1 b2_0 r3)else(if 0 < (row r1 x6).length then(if 0≤x6 then(if x6 < (r1.length:Int)then(if 0≤x6 then(if x6 < (r1.length:Int)then(if(row r1 x6).length=0 then none else(if 0≤x1 then(if x1≤((row r1 x6).length:Int)then(if 0≤wrapI (x6 - x1)then(if wrapI (x6 - x1) < (r3.length:Int)then(if 0≤wrapI (x6 - x1)then(if wrapI (x6 - x1) < (r3.length:Int)then(if 0 < ((row r1 x6).drop (x1:Int).toNat).length then(Z7.l0 x1 (wrapI (x6+1)) b0_0 r1 b2_0 (r3.set (wrapI (x6 - x1):Int).toNat ((row r1 x6).drop (x1:Int).toNat)))else none)else none)else none)else none)else none)else none)else none))else none)else none)else none)else none)else none))else none)else none)else none)else none)else(some (b2_0,r3,b0_0,r1)):=(Zm _ _ _ _).trans (by kernel_rfl)
noncomputable def Z7.con:Con:=⟨Z7.fn.ins,Z7.fn.outs,Int×(List (List Int))×Int×(List (List Int)),fun x=>Z7.f x.1 x.2.1 x.2.2.1,fun r=>((r.1,r.2.1,()),(r.2.2.1,r.2.2.2,()))⟩
theorem Z7.valid:Valid Tryz.prog 224 Z7.con:=fnV Z7.fn Z7.E Z7.enc ⟨ttOk,(Zf ZaW.valid Zap)⟩ Tryz.func224
end Go.Proofs.YthmcpmnhdbeahaaGreat.P
namespace Go.Proofs.YthmcpmnhdbeahaaGreat.P
open Go Go.RowKit Go.Proofs.YthmcpmnhdbeahaaGreat.D
noncomputable def ZF.E:Env:={ tt:=TT,con:=[(223,Zax.con),(228,ZaT.con),(137,Zk.con),(261,ZV.con),(216,Zbh.con),(224,Z7.con),(217,ZaH.con)],frz:=[37,40,75],rows:=[38],live:=[(10,[4,6,9,10,13,53,54,55])],n:=77,pin:=0,nils:=[6,13,19,48,50] }
noncomputable def ZF.fn:D.Fn:={ body:=Tryz.f209.body.getD .skip,res:=Tryz.f209.results.toList,ins:=[.agg [.v (.sl 27 (.sl 2 (.int .i64)))],.agg [.v (.int .i64),.v (.sl 2 (.int .i64))],.agg [.v (.int .i64),.v (.sl 2 (.int .i64))]],outs:=[.agg [.v (.int .i64),.own 2 true (.int .i64)],.one (.v .bool)] }
def ZF.enc (y:lsd (flats ZF.fn.outs)×lsd (ios ZF.fn.ins)):Int×(List Int)×Bool:=(y.1.1,y.1.2.1,y.1.2.2.1)
noncomputable def ZF.f (l0_0:List (List Int)) (a1_0:Int) (l1_1:List Int) (a2_0:Int) (l2_1:List Int):Option (Int×(List Int)×Bool):=denF ZF.E ZF.fn ZF.enc (l0_0,a1_0,l1_1,a2_0,l2_1,())
noncomputable def ZF.l0 (x10:Int) (x53:List Int) (x54:Int) (x55:Int) (b0_0:Int) (b0_1:List Int) (b1_0:Int) (b2_0:Int) (b3_0:Int) (r4:List Int) (r5:List (List Int)) (r6:List Int):Option (Int×(List Int)×Bool):=denAt ZF.E ZF.fn ZF.enc [1,1,1,1,1,1,1,0,1,0] { fr:=[(4,.lf (.box 0 0)),(6,.lf (.box 1 0)),(9,.lf (.box 2 0)),(10,.lf (.int .i64 x10)),(13,.lf (.box 3 0)),(53,.lf (.sl (.int .i64) x53)),(54,.lf (.int .i64 x54)),(55,.lf (.int .i64 x55))],ob:=[(0,.box 29 false [.int .i64 b0_0,.sl (.int .i64) b0_1]),(1,.box 56 false [.int .i64 b1_0,.own 4]),(2,.box 187 false [.int .i64 b2_0,.own 5]),(3,.box 56 false [.int .i64 b3_0,.own 6]),(4,.row 2 true (.int .i64) r4),(5,.row 27 false (.sl 1000002 (.int .i64)) r5),(6,.row 2 true (.int .i64) r6)],nx:=7 }
theorem ZF.f_eq (l0_0:List (List Int)) (a1_0:Int) (l1_1:List Int) (a2_0:Int) (l2_1:List Int):ZF.f l0_0 a1_0 l1_1 a2_0 l2_1=if a2_0=0 then(some (0,([]:List Int),false))else((Zax.f l0_0 a1_0 l1_1 (wrapI (a2_0 - 1))).bind fun t27=>(ZaT.f l0_0 (wrapI (a2_0 - 1))).bind fun t36=>if t36=t36 then(if 0≤t36 then(if(t36:Int).toNat≤17592186044416 then((Zk.f ([l2_1,List.replicate (t36:Int).toNat (0:Int)]:List (List Int))).bind fun t39=>(ZV.f t27.1 t27.2.1 t39).bind fun t40=>if 0≤t27.2.2 then(if t27.2.2≤(t40.1.length:Int)then((Zbh.f (t40.1.take (t27.2.2:Int).toNat)).bind fun t46=>if t46=true then(if 0≤t27.2.2 then(if t27.2.2≤(t40.1.length:Int)then(ZF.l0 t27.2.2 (t40.1.drop (t27.2.2:Int).toNat) ((t40.1.drop (t27.2.2:Int).toNat).length:Int) 0 a1_0 l1_1 0 t40.2.2.1 (wrapI (a2_0 - 1)) ([]:List Int) t40.2.2.2 ([]:List Int))else none)else none)else(some (0,([]:List Int),false)))else none)else none)else none)else none)else none):=by kernel_rfl
theorem ZF.l0_eq (x10:Int) (x53:List Int) (x54:Int) (x55:Int) (b0_0:Int) (b0_1:List Int) (b1_0:Int) (b2_0:Int) (b3_0:Int) (r4:List Int) (r5:List (List Int)) (r6:List Int):ZF.l0 x10 x53 x54 x55 b0_0 b0_1 b1_0 b2_0 b3_0 r4 r5 r6=if x55 < x54 then(if 0≤x55 then(if x55 < (x53.length:Int)then(if b0_0=0 then none else(if r6.length+([(wrapI (b0_0 - (rd x53 x55)):Int).tmod b0_0]:List Int).length≤17592186044416 then(ZF.l0 x10 x53 x54 (wrapI (x55+1)) b0_0 b0_1 b1_0 b2_0 b3_0 r4 r5 (r6++([(wrapI (b0_0 - (rd x53 x55)):Int).tmod b0_0]:List Int)))else none))else none)else none)else((Z7.f b2_0 r5 x10).bind fun t74=>(ZaH.f t74.1 t74.2.1 b3_0 r6).bind fun t76=>some (t76.1,t76.2.1,true)):=(Zm _ _ _ _).trans (by kernel_rfl)
noncomputable def ZF.con:Con:=⟨ZF.fn.ins,ZF.fn.outs,Int×(List Int)×Bool,fun x=>ZF.f x.1 x.2.1 x.2.2.1 x.2.2.2.1 x.2.2.2.2.1,fun r=>((r.1,r.2.1,r.2.2,()),(()))⟩
theorem ZF.valid:Valid Tryz.prog 209 ZF.con:=fnV ZF.fn ZF.E ZF.enc ⟨ttOk,(Zf Zax.valid (Zf ZaT.valid (Zf Zk.valid (Zf ZV.valid (Zf Zbh.valid (Zf Z7.valid (Zf ZaH.valid Zap)))))))⟩ Tryz.func209
end Go.Proofs.YthmcpmnhdbeahaaGreat.P
namespace Go.Proofs.YthmcpmnhdbeahaaGreat.P
open Go Go.RowKit Go.Proofs.YthmcpmnhdbeahaaGreat.D
noncomputable def Za4.E:Env:={ tt:=TT,con:=[],frz:=[],rows:=[],live:=[(3,[0,3,6,8,9,16,17,18])],n:=45,pin:=0,nils:=[8,9,14] }
noncomputable def Za4.fn:D.Fn:={ body:=Tryz.f210.body.getD .skip,res:=Tryz.f210.results.toList,ins:=[.one (.v (.int .i64)),.agg [.v (.int .i64),.v (.sl 2 (.int .i64))],.agg [.v (.int .i64),.v (.sl 2 (.int .i64))],.one (.v (.int .i64))],outs:=[.agg [.v (.int .i64),.own 2 true (.int .i64)]] }
def Za4.enc (y:lsd (flats Za4.fn.outs)×lsd (ios Za4.fn.ins)):Int×(List Int):=(y.1.1,y.1.2.1)
noncomputable def Za4.f (a0:Int) (a1_0:Int) (l1_1:List Int) (a2_0:Int) (l2_1:List Int) (a3:Int):Option (Int×(List Int)):=denF Za4.E Za4.fn Za4.enc (a0,a1_0,l1_1,a2_0,l2_1,a3,())
noncomputable def Za4.l0 (x0:Int) (x3:Int) (x16:List Int) (x17:Int) (x18:Int) (b0_0:Int) (b0_1:List Int) (b1_0:Int) (b2_0:Int) (r3:List Int) (r4:List Int):Option (Int×(List Int)):=denAt Za4.E Za4.fn Za4.enc [1,1,0,1,0] { fr:=[(0,.lf (.int .i64 x0)),(3,.lf (.int .i64 x3)),(6,.lf (.box 0 0)),(8,.lf (.box 1 0)),(9,.lf (.box 2 0)),(16,.lf (.sl (.int .i64) x16)),(17,.lf (.int .i64 x17)),(18,.lf (.int .i64 x18))],ob:=[(0,.box 56 false [.int .i64 b0_0,.sl (.int .i64) b0_1]),(1,.box 56 false [.int .i64 b1_0,.own 3]),(2,.box 56 false [.int .i64 b2_0,.own 4]),(3,.row 2 true (.int .i64) r3),(4,.row 2 true (.int .i64) r4)],nx:=5 }
theorem Za4.f_eq (a0:Int) (a1_0:Int) (l1_1:List Int) (a2_0:Int) (l2_1:List Int) (a3:Int):Za4.f a0 a1_0 l1_1 a2_0 l2_1 a3=Za4.l0 a0 a3 l1_1 (l1_1.length:Int) 0 a2_0 l2_1 0 a1_0 ([]:List Int) ([]:List Int):=by kernel_rfl
theorem Za4.l0_eq (x0:Int) (x3:Int) (x16:List Int) (x17:Int) (x18:Int) (b0_0:Int) (b0_1:List Int) (b1_0:Int) (b2_0:Int) (r3:List Int) (r4:List Int):Za4.l0 x0 x3 x16 x17 x18 b0_0 b0_1 b1_0 b2_0 r3 r4=if x18 < x17 then(if 0≤x18 then(if x18 < (x16.length:Int)then(if 0≤x18 then(if x18 < (b0_1.length:Int)then(if x0=0 then none else(if x0=0 then none else(if r4.length+([(wrapI (((wrapI ((rd x16 x18)+(wrapI (x3*(rd b0_1 x18)))):Int).tmod x0)+x0):Int).tmod x0]:List Int).length≤17592186044416 then(Za4.l0 x0 x3 x16 x17 (wrapI (x18+1)) b0_0 b0_1 b1_0 b2_0 r3 (r4++([(wrapI (((wrapI ((rd x16 x18)+(wrapI (x3*(rd b0_1 x18)))):Int).tmod x0)+x0):Int).tmod x0]:List Int)))else none)))else none)else none)else none)else none)else(some (b2_0,r4)):=(Zm _ _ _ _).trans (by kernel_rfl)
noncomputable def Za4.con:Con:=⟨Za4.fn.ins,Za4.fn.outs,Int×(List Int),fun x=>Za4.f x.1 x.2.1 x.2.2.1 x.2.2.2.1 x.2.2.2.2.1 x.2.2.2.2.2.1,fun r=>((r.1,r.2,()),(()))⟩
theorem Za4.valid:Valid Tryz.prog 210 Za4.con:=fnV Za4.fn Za4.E Za4.enc ⟨ttOk,Zap⟩ Tryz.func210
end Go.Proofs.YthmcpmnhdbeahaaGreat.P
namespace Go.Proofs.YthmcpmnhdbeahaaGreat.P
open Go Go.RowKit Go.Proofs.YthmcpmnhdbeahaaGreat.D
noncomputable def Za1.E:Env:={ tt:=TT,con:=[(211,Zbm.con),(210,Za4.con),(209,ZF.con)],frz:=[],rows:=[],live:=[],n:=19,pin:=0,nils:=[] }
noncomputable def Za1.fn:D.Fn:={ body:=Tryz.f135.body.getD .skip,res:=Tryz.f135.results.toList,ins:=[.agg [.v (.sl 27 (.sl 2 (.int .i64)))],.agg [.v (.int .i64),.v (.sl 2 (.int .i64))],.agg [.v (.int .i64),.v (.sl 2 (.int .i64))]],outs:=[.agg [.v (.int .i64),.own 2 true (.int .i64)],.one (.v .bool)] }
def Za1.enc (y:lsd (flats Za1.fn.outs)×lsd (ios Za1.fn.ins)):Int×(List Int)×Bool:=(y.1.1,y.1.2.1,y.1.2.2.1)
noncomputable def Za1.f (l0_0:List (List Int)) (a1_0:Int) (l1_1:List Int) (a2_0:Int) (l2_1:List Int):Option (Int×(List Int)×Bool):=denF Za1.E Za1.fn Za1.enc (l0_0,a1_0,l1_1,a2_0,l2_1,())
theorem Za1.f_eq (l0_0:List (List Int)) (a1_0:Int) (l1_1:List Int) (a2_0:Int) (l2_1:List Int):Za1.f l0_0 a1_0 l1_1 a2_0 l2_1=(Zbm.f l0_0 2).bind fun t13=>(Za4.f a1_0 t13.1 t13.2 a2_0 l2_1 (-1)).bind fun t15=>(ZF.f l0_0 a1_0 l1_1 t15.1 t15.2).bind fun t16=>some (t16.1,t16.2.1,decide (t16.2.2=true)):=by kernel_rfl
noncomputable def Za1.con:Con:=⟨Za1.fn.ins,Za1.fn.outs,Int×(List Int)×Bool,fun x=>Za1.f x.1 x.2.1 x.2.2.1 x.2.2.2.1 x.2.2.2.2.1,fun r=>((r.1,r.2.1,r.2.2,()),(()))⟩
theorem Za1.valid:Valid Tryz.prog 135 Za1.con:=fnV Za1.fn Za1.E Za1.enc ⟨ttOk,(Zf Zbm.valid (Zf Za4.valid (Zf ZF.valid Zap)))⟩ Tryz.func135
end Go.Proofs.YthmcpmnhdbeahaaGreat.P
