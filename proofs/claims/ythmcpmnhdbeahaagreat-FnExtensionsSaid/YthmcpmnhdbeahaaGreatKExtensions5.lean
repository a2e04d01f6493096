/- What the proof of the law Extensions stands on, part 5: words, each Go function's Lean function, and that the Go code comes to its answers; no condition. (Packed by wip/myprint/pack.py out of what the kit's printer wrote, its words among it, partly by our patches of it, and out of texts of this session.) -/
import Derived.Test.YthmcpmnhdbeahaaGreatKExtensions3
import Derived.Test.YthmcpmnhdbeahaaGreatKExtensions4
set_option linter.unusedVariables false
set_option linter.unusedSimpArgs false
set_option maxRecDepth 100000
namespace Go.Proofs.YthmcpmnhdbeahaaGreat.P
open Go Go.RowKit Go.Proofs.YthmcpmnhdbeahaaGreat.D
noncomputable def Zbn.E:Env:={ tt:=TT,con:=[(131,ZM.con),(135,Za1.con)],frz:=[],rows:=[],live:=[],n:=26,pin:=0,nils:=[] }
noncomputable def Zbn.fn:D.Fn:={ body:=Tryz.f53.body.getD .skip,res:=Tryz.f53.results.toList,ins:=[.agg [.v (.sl 27 (.sl 2 (.int .i64)))],.agg [.v (.int .i64),.v (.sl 2 (.int .i64))],.agg [.v (.int .i64),.v (.sl 2 (.int .i64))]],outs:=[.one (.v .bool),.one (.v (.int .i64))] }
def Zbn.enc (y:lsd (flats Zbn.fn.outs)×lsd (ios Zbn.fn.ins)):Bool×Int:=(y.1.1,y.1.2.1)
noncomputable def Zbn.f (l0_0:List (List Int)) (a1_0:Int) (l1_1:List Int) (a2_0:Int) (l2_1:List Int):Option (Bool×Int):=denF Zbn.E Zbn.fn Zbn.enc (l0_0,a1_0,l1_1,a2_0,l2_1,())
theorem Zbn.f_eq (l0_0:List (List Int)) (a1_0:Int) (l1_1:List Int) (a2_0:Int) (l2_1:List Int):Zbn.f l0_0 a1_0 l1_1 a2_0 l2_1=(ZM.f l0_0 a1_0 l1_1 a2_0 l2_1 64).bind fun t14=>if t14=0 then((Za1.f l0_0 a1_0 l1_1 a2_0 l2_1).bind fun t22=>some (decide (t22.2.2=true),0))else(some (false,t14)):=by kernel_rfl
noncomputable def Zbn.con:Con:=⟨Zbn.fn.ins,Zbn.fn.outs,Bool×Int,fun x=>Zbn.f x.1 x.2.1 x.2.2.1 x.2.2.2.1 x.2.2.2.2.1,fun r=>((r.1,r.2,()),(()))⟩
theorem Zbn.valid:Valid Tryz.prog 53 Zbn.con:=fnV Zbn.fn Zbn.E Zbn.enc ⟨ttOk,(Zf ZM.valid (Zf Za1.valid Zap))⟩ Tryz.func53
end Go.Proofs.YthmcpmnhdbeahaaGreat.P
namespace Go.Proofs.YthmcpmnhdbeahaaGreat.P
open Go Go.RowKit Go.Proofs.YthmcpmnhdbeahaaGreat.D
noncomputable def Zv.E (c:Con):Env:={ tt:=TT,con:=[(136,c),(208,ZaD.con),(184,Zal.con)],frz:=[92],rows:=[],live:=[(3,[3,4,5,6,10,11]),(6,[3,4,5,6,10,11,12]),(16,[3,4,5,6,15])],n:=98,pin:=0,nils:=[] }
noncomputable def Zv.fn:D.Fn:={ body:=Tryz.f136.body.getD .skip,res:=Tryz.f136.results.toList,ins:=[.agg [.v (.sl 27 (.sl 2 (.int .i64)))],.agg [.v (.int .i64),.v (.sl 2 (.int .i64))],.agg [.v (.int .i64),.v (.sl 2 (.int .i64))],.one (.v (.sl 2 (.int .i64)))],outs:=[.one (.v (.sl 2 (.int .i64))),.one (.v .bool)] }
def Zv.enc (y:lsd (flats Zv.fn.outs)×lsd (ios Zv.fn.ins)):(List Int)×Bool:=(y.1.1,y.1.2.1)
noncomputable def Zv.cof (F:lsd (flats Zv.fn.ins)→Option ((List Int)×Bool)):Con:=⟨Zv.fn.ins,Zv.fn.outs,(List Int)×Bool,F,fun r=>((r.1,r.2,()),(()))⟩
noncomputable def Zv.fx:Nat→lsd (flats Zv.fn.ins)→Option ((List Int)×Bool)
 | 0=>fun _=>none
 | n+1=>fun x=>denF (Zv.E (Zv.cof (Zv.fx n))) Zv.fn Zv.enc x
noncomputable def Zv.cn (n:Nat):Con:=Zv.cof (Zv.fx n)
noncomputable def Zv.f (n:Nat) (l0_0:List (List Int)) (a1_0:Int) (l1_1:List Int) (a2_0:Int) (l2_1:List Int) (l3:List Int):Option ((List Int)×Bool):=Zv.fx n (l0_0,a1_0,l1_1,a2_0,l2_1,l3,())
noncomputable def Zv.l0 (n:Nat) (x3:List Int) (x10:Int) (x11:Int) (b0_0:List (List Int)) (b1_0:Int) (b1_1:List Int) (b2_0:Int) (b2_1:List Int):Option ((List Int)×Bool):=denAt (Zv.E (Zv.cn n)) Zv.fn Zv.enc [1,1,0,1,0] { fr:=[(3,.lf (.sl (.int .i64) x3)),(4,.lf (.box 0 0)),(5,.lf (.box 1 0)),(6,.lf (.box 2 0)),(10,.lf (.int .i64 x10)),(11,.lf (.int .i64 x11))],ob:=[(0,.box 26 false [.sl (.sl 2 (.int .i64)) b0_0]),(1,.box 29 false [.int .i64 b1_0,.sl (.int .i64) b1_1]),(2,.box 56 false [.int .i64 b2_0,.sl (.int .i64) b2_1])],nx:=3 }
noncomputable def Zv.l1 (n:Nat) (x3:List Int) (x10:Int) (x11:Int) (x12:Int) (b0_0:List (List Int)) (b1_0:Int) (b1_1:List Int) (b2_0:Int) (b2_1:List Int):Option ((List Int)×Bool):=denAt (Zv.E (Zv.cn n)) Zv.fn Zv.enc [1,1,0,1,0,0,1,0,0,1,0] { fr:=[(3,.lf (.sl (.int .i64) x3)),(4,.lf (.box 0 0)),(5,.lf (.box 1 0)),(6,.lf (.box 2 0)),(10,.lf (.int .i64 x10)),(11,.lf (.int .i64 x11)),(12,.lf (.int .i64 x12))],ob:=[(0,.box 26 false [.sl (.sl 2 (.int .i64)) b0_0]),(1,.box 29 false [.int .i64 b1_0,.sl (.int .i64) b1_1]),(2,.box 56 false [.int .i64 b2_0,.sl (.int .i64) b2_1])],nx:=3 }
noncomputable def Zv.l2 (n:Nat) (x3:List Int) (x15:Int) (b0_0:List (List Int)) (b1_0:Int) (b1_1:List Int) (b2_0:Int) (b2_1:List Int):Option ((List Int)×Bool):=denAt (Zv.E (Zv.cn n)) Zv.fn Zv.enc [1,1,1,1,0,1,0] { fr:=[(3,.lf (.sl (.int .i64) x3)),(4,.lf (.box 0 0)),(5,.lf (.box 1 0)),(6,.lf (.box 2 0)),(15,.lf (.int .i64 x15))],ob:=[(0,.box 26 false [.sl (.sl 2 (.int .i64)) b0_0]),(1,.box 29 false [.int .i64 b1_0,.sl (.int .i64) b1_1]),(2,.box 56 false [.int .i64 b2_0,.sl (.int .i64) b2_1])],nx:=3 }
theorem Zv.f_eq (n:Nat) (l0_0:List (List Int)) (a1_0:Int) (l1_1:List Int) (a2_0:Int) (l2_1:List Int) (l3:List Int):Zv.f (n+1) l0_0 a1_0 l1_1 a2_0 l2_1 l3=Zv.l0 n l3 (l3.length:Int) 0 l0_0 a1_0 l1_1 a2_0 l2_1:=by kernel_rfl
theorem Zv.l0_eq (n:Nat) (x3:List Int) (x10:Int) (x11:Int) (b0_0:List (List Int)) (b1_0:Int) (b1_1:List Int) (b2_0:Int) (b2_1:List Int):Zv.l0 n x3 x10 x11 b0_0 b1_0 b1_1 b2_0 b2_1=if x11 < x10 then(Zv.l1 n x3 x10 x11 0 b0_0 b1_0 b1_1 b2_0 b2_1)else(if x10=(b0_0.length:Int)then(some (x3,true))else(Zv.l2 n x3 0 b0_0 b1_0 b1_1 b2_0 b2_1)):=(Zm _ _ _ _).trans (by kernel_rfl)
theorem Zv.l1_eq (n:Nat) (x3:List Int) (x10:Int) (x11:Int) (x12:Int) (b0_0:List (List Int)) (b1_0:Int) (b1_1:List Int) (b2_0:Int) (b2_1:List Int):Zv.l1 n x3 x10 x11 x12 b0_0 b1_0 b1_1 b2_0 b2_1=if x12 < x10 then(if 0≤x11 then(if x11 < (b0_0.length:Int)then(if 0≤x12 then(if x12 < ((row b0_0 x11).length:Int)then(if(T b0_0 x11 x12) < x10 then(if 0≤x11 then(if x11 < (x3.length:Int)then(if 0≤x11 then(if x11 < (b1_1.length:Int)then(if 0≤x12 then(if x12 < (x3.length:Int)then((ZaD.f b0_0 b2_0 b2_1 ([x11,x12]:List Int)).bind fun t61=>if b1_0=0 then none else(if 0≤T b0_0 x11 x12 then(if T b0_0 x11 x12 < (x3.length:Int)then(if((wrapI ((wrapI ((rd x3 x11)+(wrapI ((rd b1_1 x11)*(rd x3 x12)))))+t61):Int).tmod b1_0)=(rd x3 (T b0_0 x11 x12))then(Zv.l1 n x3 x10 x11 (wrapI (x12+1)) b0_0 b1_0 b1_1 b2_0 b2_1)else(some (([]:List Int),false)))else none)else none))else none)else none)else none)else none)else none)else none)else(Zv.l1 n x3 x10 x11 (wrapI (x12+1)) b0_0 b1_0 b1_1 b2_0 b2_1))else none)else none)else none)else none)else(Zv.l0 n x3 x10 (wrapI (x11+1)) b0_0 b1_0 b1_1 b2_0 b2_1):=(Zm _ _ _ _).trans (by kernel_rfl)
theorem Zv.l2_eq (n:Nat) (x3:List Int) (x15:Int) (b0_0:List (List Int)) (b1_0:Int) (b1_1:List Int) (b2_0:Int) (b2_1:List Int):Zv.l2 n x3 x15 b0_0 b1_0 b1_1 b2_0 b2_1=if x15 < b1_0 then((Zal.f x3).bind fun t89=>if t89.length+([x15]:List Int).length≤17592186044416 then((Zv.f n b0_0 b1_0 b1_1 b2_0 b2_1 (t89++([x15]:List Int))).bind fun t93=>if t93.2=true then(some (t93.1,true))else(Zv.l2 n x3 (wrapI (x15+1)) b0_0 b1_0 b1_1 b2_0 b2_1))else none)else(some (([]:List Int),false)):=(Zm _ _ _ _).trans (by kernel_rfl)
theorem Zv.vn:∀n,Valid Tryz.prog 136 (Zv.cn n)
 | 0=>Zf5 ⟨_,Tryz.func136,by kernel_rfl,by kernel_rfl⟩
 | n+1=>ZeZ (f:=Zv.fn) (E:=Zv.E (Zv.cn n)) (enc:=Zv.enc) ⟨ttOk,(Zf (Zv.vn n) (Zf ZaD.valid (Zf Zal.valid Zap)))⟩ (Checked.mixed Tryz.checked) ⟨Tryz.func136,by kernel_rfl,by kernel_rfl,by kernel_rfl,by kernel_rfl,of_decide_eq_true (by kernel_rfl),by kernel_rfl,by kernel_rfl⟩ (fun _=>rfl)
noncomputable def Zv.con:Con:=Zv.cn fuel
theorem Zv.valid:Valid Tryz.prog 136 Zv.con:=Zv.vn fuel
end Go.Proofs.YthmcpmnhdbeahaaGreat.P
namespace Go.Proofs.YthmcpmnhdbeahaaGreat.P
open Go Go.RowKit Go.Proofs.YthmcpmnhdbeahaaGreat.D
noncomputable def Zbo.E:Env:={ tt:=TT,con:=[(133,Zaq.con),(136,Zv.con)],frz:=[22],rows:=[],live:=[],n:=27,pin:=0,nils:=[] }
noncomputable def Zbo.fn:D.Fn:={ body:=Tryz.f54.body.getD .skip,res:=Tryz.f54.results.toList,ins:=[.agg [.v (.sl 27 (.sl 2 (.int .i64)))],.agg [.v (.int .i64),.v (.sl 2 (.int .i64))],.agg [.v (.int .i64),.v (.sl 2 (.int .i64))]],outs:=[.one (.v .bool),.one (.v (.int .i64))] }
def Zbo.enc (y:lsd (flats Zbo.fn.outs)×lsd (ios Zbo.fn.ins)):Bool×Int:=(y.1.1,y.1.2.1)
noncomputable def Zbo.f (l0_0:List (List Int)) (a1_0:Int) (l1_1:List Int) (a2_0:Int) (l2_1:List Int):Option (Bool×Int):=denF Zbo.E Zbo.fn Zbo.enc (l0_0,a1_0,l1_1,a2_0,l2_1,())
theorem Zbo.f_eq (l0_0:List (List Int)) (a1_0:Int) (l1_1:List Int) (a2_0:Int) (l2_1:List Int):Zbo.f l0_0 a1_0 l1_1 a2_0 l2_1=(Zaq.f l0_0 a1_0 l1_1 a2_0 l2_1 64).bind fun t14=>if t14=0 then((Zv.f fuel l0_0 a1_0 l1_1 a2_0 l2_1 ([]:List Int)).bind fun t23=>some (decide (t23.2=true),0))else(some (false,t14)):=by kernel_rfl
noncomputable def Zbo.con:Con:=⟨Zbo.fn.ins,Zbo.fn.outs,Bool×Int,fun x=>Zbo.f x.1 x.2.1 x.2.2.1 x.2.2.2.1 x.2.2.2.2.1,fun r=>((r.1,r.2,()),(()))⟩
theorem Zbo.valid:Valid Tryz.prog 54 Zbo.con:=fnV Zbo.fn Zbo.E Zbo.enc ⟨ttOk,(Zf Zaq.valid (Zf Zv.valid Zap))⟩ Tryz.func54
end Go.Proofs.YthmcpmnhdbeahaaGreat.P
namespace Go.Proofs.YthmcpmnhdbeahaaGreat.P
open Go Go.RowKit Go.Proofs.YthmcpmnhdbeahaaGreat.D
noncomputable def Zat.E:Env:={ tt:=TT,con:=[(131,ZM.con),(135,Za1.con),(137,Zk.con)],frz:=[],rows:=[],live:=[],n:=32,pin:=0,nils:=[] }
noncomputable def Zat.fn:D.Fn:={ body:=Tryz.f55.body.getD .skip,res:=Tryz.f55.results.toList,ins:=[.agg [.v (.sl 27 (.sl 2 (.int .i64)))],.agg [.v (.int .i64),.v (.sl 2 (.int .i64))],.agg [.v (.int .i64),.v (.sl 2 (.int .i64))]],outs:=[.one (.own 2 true (.int .i64)),.one (.v (.int .i64))] }
def Zat.enc (y:lsd (flats Zat.fn.outs)×lsd (ios Zat.fn.ins)):(List Int)×Int:=(y.1.1,y.1.2.1)
noncomputable def Zat.f (l0_0:List (List Int)) (a1_0:Int) (l1_1:List Int) (a2_0:Int) (l2_1:List Int):Option ((List Int)×Int):=denF Zat.E Zat.fn Zat.enc (l0_0,a1_0,l1_1,a2_0,l2_1,())
theorem Zat.f_eq (l0_0:List (List Int)) (a1_0:Int) (l1_1:List Int) (a2_0:Int) (l2_1:List Int):Zat.f l0_0 a1_0 l1_1 a2_0 l2_1=(ZM.f l0_0 a1_0 l1_1 a2_0 l2_1 64).bind fun t14=>if t14=0 then((Za1.f l0_0 a1_0 l1_1 a2_0 l2_1).bind fun t22=>if t22.2.2=true then((Zk.f ([([0]:List Int),t22.2.1]:List (List Int))).bind fun t31=>some (t31,0))else(some (([]:List Int),5)))else(some (([]:List Int),t14)):=by kernel_rfl
noncomputable def Zat.con:Con:=⟨Zat.fn.ins,Zat.fn.outs,(List Int)×Int,fun x=>Zat.f x.1 x.2.1 x.2.2.1 x.2.2.2.1 x.2.2.2.2.1,fun r=>((r.1,r.2,()),(()))⟩
theorem Zat.valid:Valid Tryz.prog 55 Zat.con:=fnV Zat.fn Zat.E Zat.enc ⟨ttOk,(Zf ZM.valid (Zf Za1.valid (Zf Zk.valid Zap)))⟩ Tryz.func55
end Go.Proofs.YthmcpmnhdbeahaaGreat.P
namespace Go.Proofs.YthmcpmnhdbeahaaGreat.P
open Go Go.RowKit Go.Proofs.YthmcpmnhdbeahaaGreat.D
noncomputable def Zau.E:Env:={ tt:=TT,con:=[(133,Zaq.con),(136,Zv.con)],frz:=[22],rows:=[],live:=[],n:=29,pin:=0,nils:=[] }
noncomputable def Zau.fn:D.Fn:={ body:=Tryz.f56.body.getD .skip,res:=Tryz.f56.results.toList,ins:=[.agg [.v (.sl 27 (.sl 2 (.int .i64)))],.agg [.v (.int .i64),.v (.sl 2 (.int .i64))],.agg [.v (.int .i64),.v (.sl 2 (.int .i64))]],outs:=[.one (.v (.sl 2 (.int .i64))),.one (.v (.int .i64))] }
def Zau.enc (y:lsd (flats Zau.fn.outs)×lsd (ios Zau.fn.ins)):(List Int)×Int:=(y.1.1,y.1.2.1)
noncomputable def Zau.f (l0_0:List (List Int)) (a1_0:Int) (l1_1:List Int) (a2_0:Int) (l2_1:List Int):Option ((List Int)×Int):=denF Zau.E Zau.fn Zau.enc (l0_0,a1_0,l1_1,a2_0,l2_1,())
theorem Zau.f_eq (l0_0:List (List Int)) (a1_0:Int) (l1_1:List Int) (a2_0:Int) (l2_1:List Int):Zau.f l0_0 a1_0 l1_1 a2_0 l2_1=(Zaq.f l0_0 a1_0 l1_1 a2_0 l2_1 64).bind fun t14=>if t14=0 then((Zv.f fuel l0_0 a1_0 l1_1 a2_0 l2_1 ([]:List Int)).bind fun t23=>if t23.2=true then(some (t23.1,0))else(some (([]:List Int),5)))else(some (([]:List Int),t14)):=by kernel_rfl
noncomputable def Zau.con:Con:=⟨Zau.fn.ins,Zau.fn.outs,(List Int)×Int,fun x=>Zau.f x.1 x.2.1 x.2.2.1 x.2.2.2.1 x.2.2.2.2.1,fun r=>((r.1,r.2,()),(()))⟩
theorem Zau.valid:Valid Tryz.prog 56 Zau.con:=fnV Zau.fn Zau.E Zau.enc ⟨ttOk,(Zf Zaq.valid (Zf Zv.valid Zap))⟩ Tryz.func56
end Go.Proofs.YthmcpmnhdbeahaaGreat.P
namespace Go.Proofs.YthmcpmnhdbeahaaGreat.P
open Go Go.RowKit Go.Proofs.YthmcpmnhdbeahaaGreat.D
noncomputable def ZaU.E:Env:={ tt:=TT,con:=[],frz:=[],rows:=[],live:=[(3,[1,5,9,10,11])],n:=23,pin:=0,nils:=[] }
noncomputable def ZaU.fn:D.Fn:={ body:=Tryz.f94.body.getD .skip,res:=Tryz.f94.results.toList,ins:=[.one (.v (.sl 2 (.int .i64))),.one (.fn [(.int .i64)] (.int .i64))],outs:=[.one (.own 2 true (.int .i64))] }
def ZaU.enc (y:lsd (flats ZaU.fn.outs)×lsd (ios ZaU.fn.ins)):(List Int):=y.1.1
noncomputable def ZaU.f (l0:List Int) (f1:Int→Option Int):Option (List Int):=denF ZaU.E ZaU.fn ZaU.enc (l0,fun x=>f1 x.1,())
noncomputable def ZaU.l0 (fx1:Int→Option Int) (x9:List Int) (x10:Int) (x11:Int) (r0:List Int):Option (List Int):=denAt ZaU.E ZaU.fn ZaU.enc [1,1,0,1,0] { fr:=[(1,.lf (.fn [(.int .i64)] (.int .i64) (fun x=>fx1 x.1))),(5,.lf (.own 0)),(9,.lf (.sl (.int .i64) x9)),(10,.lf (.int .i64 x10)),(11,.lf (.int .i64 x11))],ob:=[(0,.row 2 true (.int .i64) r0)],nx:=1 }
theorem ZaU.f_eq (l0:List Int) (f1:Int→Option Int):ZaU.f l0 f1=ZaU.l0 f1 l0 (l0.length:Int) 0 ([]:List Int):=by kernel_rfl
theorem ZaU.l0_eq (fx1:Int→Option Int) (x9:List Int) (x10:Int) (x11:Int) (r0:List Int):ZaU.l0 fx1 x9 x10 x11 r0=if x11 < x10 then(if 0≤x11 then(if x11 < (x9.length:Int)then((fx1 (rd x9 x11)).bind fun t18=>if r0.length+([t18]:List Int).length≤17592186044416 then(ZaU.l0 fx1 x9 x10 (wrapI (x11+1)) (r0++([t18]:List Int)))else none)else none)else none)else(some r0):=(Zm _ _ _ _).trans (by kernel_rfl)
noncomputable def ZaU.con:Con:=⟨ZaU.fn.ins,ZaU.fn.outs,(List Int),fun x=>ZaU.f x.1 (fun z0=>x.2.1 (z0,())),fun r=>((r,()),(()))⟩
theorem ZaU.valid:Valid Tryz.prog 94 ZaU.con:=fnV ZaU.fn ZaU.E ZaU.enc ⟨ttOk,Zap⟩ Tryz.func94
end Go.Proofs.YthmcpmnhdbeahaaGreat.P
namespace Go.Proofs.YthmcpmnhdbeahaaGreat.P
open Go Go.RowKit Go.Proofs.YthmcpmnhdbeahaaGreat.D
noncomputable def Z9.E:Env:={ tt:=TT,con:=[],frz:=[],rows:=[],live:=[(3,[3,6,7])],n:=16,pin:=0,nils:=[] }
noncomputable def Z9.fn:D.Fn:={ body:=Tryz.f138.body.getD .skip,res:=Tryz.f138.results.toList,ins:=[.one (.v (.int .i64))],outs:=[.one (.own 2 true (.int .i64))] }
def Z9.enc (y:lsd (flats Z9.fn.outs)×lsd (ios Z9.fn.ins)):(List Int):=y.1.1
noncomputable def Z9.f (a0:Int):Option (List Int):=denF Z9.E Z9.fn Z9.enc (a0,())
noncomputable def Z9.l0 (x6:Int) (x7:Int) (r0:List Int):Option (List Int):=denAt Z9.E Z9.fn Z9.enc [1,1,0,1,0] { fr:=[(3,.lf (.own 0)),(6,.lf (.int .i64 x6)),(7,.lf (.int .i64 x7))],ob:=[(0,.row 2 true (.int .i64) r0)],nx:=1 }
theorem Z9.f_eq (a0:Int):Z9.f a0=Z9.l0 a0 0 ([]:List Int):=by kernel_rfl
theorem Z9.l0_eq (x6:Int) (x7:Int) (r0:List Int):Z9.l0 x6 x7 r0=if x7 < x6 then(if r0.length+([x7]:List Int).length≤17592186044416 then(Z9.l0 x6 (wrapI (x7+1)) (r0++([x7]:List Int)))else none)else(some r0):=(Zm _ _ _ _).trans (by kernel_rfl)
noncomputable def Z9.con:Con:=⟨Z9.fn.ins,Z9.fn.outs,(List Int),fun x=>Z9.f x.1,fun r=>((r,()),(()))⟩
theorem Z9.valid:Valid Tryz.prog 138 Z9.con:=fnV Z9.fn Z9.E Z9.enc ⟨ttOk,Zap⟩ Tryz.func138
end Go.Proofs.YthmcpmnhdbeahaaGreat.P
namespace Go.Proofs.YthmcpmnhdbeahaaGreat.P
open Go Go.RowKit Go.Proofs.YthmcpmnhdbeahaaGreat.D
noncomputable def ZJ.E:Env:={ tt:=TT,con:=[(172,Zo.con)],frz:=[],rows:=[],live:=[(3,[1,2,5,6])],n:=18,pin:=0,nils:=[] }
noncomputable def ZJ.fn:D.Fn:={ body:=Tryz.f140.body.getD .skip,res:=Tryz.f140.results.toList,ins:=[.agg [.v (.sl 27 (.sl 2 (.int .i64)))],.one (.v (.int .i64))],outs:=[.one (.v (.int .i64))] }
def ZJ.enc (y:lsd (flats ZJ.fn.outs)×lsd (ios ZJ.fn.ins)):Int:=y.1.1
noncomputable def ZJ.f (l0_0:List (List Int)) (a1:Int):Option Int:=denF ZJ.E ZJ.fn ZJ.enc (l0_0,a1,())
noncomputable def ZJ.l0 (x1:Int) (x5:Int) (x6:Int) (b0_0:List (List Int)):Option Int:=denAt ZJ.E ZJ.fn ZJ.enc [1,1,0,1,0] { fr:=[(1,.lf (.int .i64 x1)),(2,.lf (.box 0 0)),(5,.lf (.int .i64 x5)),(6,.lf (.int .i64 x6))],ob:=[(0,.box 26 false [.sl (.sl 2 (.int .i64)) b0_0])],nx:=1 }
theorem ZJ.f_eq (l0_0:List (List Int)) (a1:Int):ZJ.f l0_0 a1=ZJ.l0 a1 1 a1 l0_0:=by kernel_rfl
theorem ZJ.l0_eq (x1:Int) (x5:Int) (x6:Int) (b0_0:List (List Int)):ZJ.l0 x1 x5 x6 b0_0=if x6=0 then(some x5)else((Zo.f b0_0 ([x6,x1]:List Int)).bind fun t14=>ZJ.l0 x1 (wrapI (x5+1)) t14 b0_0):=(Zm _ _ _ _).trans (by kernel_rfl)
noncomputable def ZJ.con:Con:=⟨ZJ.fn.ins,ZJ.fn.outs,Int,fun x=>ZJ.f x.1 x.2.1,fun r=>((r,()),(()))⟩
theorem ZJ.valid:Valid Tryz.prog 140 ZJ.con:=fnV ZJ.fn ZJ.E ZJ.enc ⟨ttOk,(Zf Zo.valid Zap)⟩ Tryz.func140
end Go.Proofs.YthmcpmnhdbeahaaGreat.P
namespace Go.Proofs.YthmcpmnhdbeahaaGreat.P
open Go Go.RowKit Go.Proofs.YthmcpmnhdbeahaaGreat.D
noncomputable def ZR.E:Env:={ tt:=TT,con:=[(131,ZM.con),(132,ZaF.con),(139,ZS.con),(138,Z9.con),(140,ZJ.con),(94,ZaU.con)],frz:=[20],rows:=[],live:=[],n:=27,pin:=0,nils:=[] }
noncomputable def ZR.fn:D.Fn:={ body:=Tryz.f57.body.getD .skip,res:=Tryz.f57.results.toList,ins:=[.agg [.v (.sl 27 (.sl 2 (.int .i64)))],.agg [.v (.int .i64),.v (.sl 2 (.int .i64))],.agg [.v (.int .i64),.v (.sl 2 (.int .i64))]],outs:=[.one (.own 2 true (.int .i64)),.one (.v (.int .i64))] }
def ZR.enc (y:lsd (flats ZR.fn.outs)×lsd (ios ZR.fn.ins)):(List Int)×Int:=(y.1.1,y.1.2.1)
noncomputable def ZR.f (l0_0:List (List Int)) (a1_0:Int) (l1_1:List Int) (a2_0:Int) (l2_1:List Int):Option ((List Int)×Int):=denF ZR.E ZR.fn ZR.enc (l0_0,a1_0,l1_1,a2_0,l2_1,())
theorem ZR.f_eq (l0_0:List (List Int)) (a1_0:Int) (l1_1:List Int) (a2_0:Int) (l2_1:List Int):ZR.f l0_0 a1_0 l1_1 a2_0 l2_1=(ZM.f l0_0 a1_0 l1_1 a2_0 l2_1 64).bind fun t13=>if t13=0 then((ZaF.f l0_0 a1_0 l1_1 a2_0 l2_1).bind fun t20=>(ZS.f t20).bind fun t22=>(Z9.f t22).bind fun t23=>(ZaU.f t23 (fun z0=>((ZJ.f t20 z0).map fun z=>z).map fun z=>z)).bind fun t26=>some (t26,0))else(some (([]:List Int),t13)):=by kernel_rfl
noncomputable def ZR.con:Con:=⟨ZR.fn.ins,ZR.fn.outs,(List Int)×Int,fun x=>ZR.f x.1 x.2.1 x.2.2.1 x.2.2.2.1 x.2.2.2.2.1,fun r=>((r.1,r.2,()),(()))⟩
theorem ZR.valid:Valid Tryz.prog 57 ZR.con:=fnV ZR.fn ZR.E ZR.enc ⟨ttOk,(Zf ZM.valid (Zf ZaF.valid (Zf ZS.valid (Zf Z9.valid (Zf ZJ.valid (Zf ZaU.valid Zap))))))⟩ Tryz.func57
end Go.Proofs.YthmcpmnhdbeahaaGreat.P
namespace Go.Proofs.YthmcpmnhdbeahaaGreat.P
open Go Go.RowKit Go.Proofs.YthmcpmnhdbeahaaGreat.D
noncomputable def Zg.E:Env:={ tt:=TT,con:=[(133,Zaq.con),(134,ZL.con)],frz:=[24],rows:=[],live:=[(6,[9,10,11]),(10,[9,10,11,12,13])],n:=49,pin:=0,nils:=[] }
noncomputable def Zg.fn:D.Fn:={ body:=Tryz.f58.body.getD .skip,res:=Tryz.f58.results.toList,ins:=[.agg [.v (.sl 27 (.sl 2 (.int .i64)))],.agg [.v (.int .i64),.v (.sl 2 (.int .i64))],.agg [.v (.int .i64),.v (.sl 2 (.int .i64))]],outs:=[.one (.own 2 true (.int .i64)),.one (.v (.int .i64))] }
def Zg.enc (y:lsd (flats Zg.fn.outs)×lsd (ios Zg.fn.ins)):(List Int)×Int:=(y.1.1,y.1.2.1)
noncomputable def Zg.f (l0_0:List (List Int)) (a1_0:Int) (l1_1:List Int) (a2_0:Int) (l2_1:List Int):Option ((List Int)×Int):=denF Zg.E Zg.fn Zg.enc (l0_0,a1_0,l1_1,a2_0,l2_1,())
noncomputable def Zg.l0 (x9:List (List Int)) (x11:Int) (r0:List Int):Option ((List Int)×Int):=denAt Zg.E Zg.fn Zg.enc [1,1,1,0,1,0] { fr:=[(9,.lf (.sl (.sl 2 (.int .i64)) x9)),(10,.lf (.own 0)),(11,.lf (.int .i64 x11))],ob:=[(0,.row 2 true (.int .i64) r0)],nx:=1 }
noncomputable def Zg.l1 (x9:List (List Int)) (x11:Int) (x12:Int) (x13:Int) (r0:List Int):Option ((List Int)×Int):=denAt Zg.E Zg.fn Zg.enc [1,1,1,0,1,0,0,1,0,0,1,0,1,0] { fr:=[(9,.lf (.sl (.sl 2 (.int .i64)) x9)),(10,.lf (.own 0)),(11,.lf (.int .i64 x11)),(12,.lf (.int .i64 x12)),(13,.lf (.int .i64 x13))],ob:=[(0,.row 2 true (.int .i64) r0)],nx:=1 }
theorem Zg.f_eq (l0_0:List (List Int)) (a1_0:Int) (l1_1:List Int) (a2_0:Int) (l2_1:List Int):Zg.f l0_0 a1_0 l1_1 a2_0 l2_1=(Zaq.f l0_0 a1_0 l1_1 a2_0 l2_1 64).bind fun t17=>if t17=0 then((ZL.f l0_0 a1_0 l1_1 a2_0 l2_1).bind fun t24=>Zg.l0 t24 0 ([]:List Int))else(some (([]:List Int),t17)):=by kernel_rfl
theorem Zg.l0_eq (x9:List (List Int)) (x11:Int) (r0:List Int):Zg.l0 x9 x11 r0=if x11 < (x9.length:Int)then(Zg.l1 x9 x11 1 x11 r0)else(some (r0,0)):=(Zm _ _ _ _).trans (by kernel_rfl)
theorem Zg.l1_eq (x9:List (List Int)) (x11:Int) (x12:Int) (x13:Int) (r0:List Int):Zg.l1 x9 x11 x12 x13 r0=if x13=0 then(if r0.length+([x12]:List Int).length≤17592186044416 then(Zg.l0 x9 (wrapI (x11+1)) (r0++([x12]:List Int)))else none)else(if 0≤x13 then(if x13 < (x9.length:Int)then(if 0≤x11 then(if x11 < ((row x9 x13).length:Int)then(Zg.l1 x9 x11 (wrapI (x12+1)) (T x9 x13 x11) r0)else none)else none)else none)else none):=(Zm _ _ _ _).trans (by kernel_rfl)
noncomputable def Zg.con:Con:=⟨Zg.fn.ins,Zg.fn.outs,(List Int)×Int,fun x=>Zg.f x.1 x.2.1 x.2.2.1 x.2.2.2.1 x.2.2.2.2.1,fun r=>((r.1,r.2,()),(()))⟩
theorem Zg.valid:Valid Tryz.prog 58 Zg.con:=fnV Zg.fn Zg.E Zg.enc ⟨ttOk,(Zf Zaq.valid (Zf ZL.valid Zap))⟩ Tryz.func58
end Go.Proofs.YthmcpmnhdbeahaaGreat.P
namespace Go.Proofs.YthmcpmnhdbeahaaGreat.P
open Go Go.RowKit Go.Proofs.YthmcpmnhdbeahaaGreat.D
noncomputable def Zn.E:Env:={ tt:=TT,con:=[(219,Zd.con)],frz:=[],rows:=[],live:=[(5,[0,1,5,6])],n:=42,pin:=0,nils:=[] }
noncomputable def Zn.fn:D.Fn:={ body:=Tryz.f145.body.getD .skip,res:=Tryz.f145.results.toList,ins:=[.eat 2 true (.int .i64),.one (.fn [(.int .i64)] .bool)],outs:=[.one (.own 2 true (.int .i64))] }
def Zn.enc (y:lsd (flats Zn.fn.outs)×lsd (ios Zn.fn.ins)):(List Int):=y.1.1
noncomputable def Zn.f (l0:List Int) (f1:Int→Option Bool):Option (List Int):=denF Zn.E Zn.fn Zn.enc (l0,fun x=>f1 x.1,())
noncomputable def Zn.l0 (fx1:Int→Option Bool) (x5:Int) (x6:Int) (r0:List Int):Option (List Int):=denAt Zn.E Zn.fn Zn.enc [1,1,1,0,1,0] { fr:=[(0,.lf (.own 0)),(1,.lf (.fn [(.int .i64)] .bool (fun x=>fx1 x.1))),(5,.lf (.int .i64 x5)),(6,.lf (.int .i64 x6))],ob:=[(0,.row 2 true (.int .i64) r0)],nx:=1 }
theorem Zn.f_eq (l0:List Int) (f1:Int→Option Bool):Zn.f l0 f1=(Zd.f l0 (fun z0=>(f1 z0).map fun z=>z)).bind fun t10=>if t10=(-1)then(some l0)else(Zn.l0 f1 t10 (wrapI (t10+1)) l0):=by kernel_rfl
theorem Zn.l0_eq (fx1:Int→Option Bool) (x5:Int) (x6:Int) (r0:List Int):Zn.l0 fx1 x5 x6 r0=if x6 < (r0.length:Int)then(if 0≤x6 then(if x6 < (r0.length:Int)then(if 0≤x6 then(if x6 < (r0.length:Int)then((fx1 (rd r0 x6)).bind fun t28=>if t28=true then(Zn.l0 fx1 x5 (wrapI (x6+1)) r0)else(if 0≤x5 then(if x5 < (r0.length:Int)then(if 0≤x5 then(if x5 < (r0.length:Int)then(Zn.l0 fx1 (wrapI (x5+1)) (wrapI (x6+1)) (r0.set (x5:Int).toNat (rd r0 x6)))else none)else none)else none)else none))else none)else none)else none)else none)else(if 0 < (r0.length:Int)then(if 0≤x5 then(if x5≤(r0.length:Int)then(if 0 < ((r0.take ((x5:Int).toNat)++List.replicate (r0.length - ((x5:Int).toNat)) 0).length:Int)then(if 0≤x5 then(if x5≤((r0.take ((x5:Int).toNat)++List.replicate (r0.length - ((x5:Int).toNat)) 0).length:Int)then(some ((r0.take ((x5:Int).toNat)++List.replicate (r0.length - ((x5:Int).toNat)) 0).take (x5:Int).toNat))else none)else none)else none)else none)else none)else none):=(Zm _ _ _ _).trans (by kernel_rfl)
noncomputable def Zn.con:Con:=⟨Zn.fn.ins,Zn.fn.outs,(List Int),fun x=>Zn.f x.1 (fun z0=>x.2.1 (z0,())),fun r=>((r,()),(()))⟩
theorem Zn.valid:Valid Tryz.prog 145 Zn.con:=fnV Zn.fn Zn.E Zn.enc ⟨ttOk,(Zf Zd.valid Zap)⟩ Tryz.func145
end Go.Proofs.YthmcpmnhdbeahaaGreat.P
namespace Go.Proofs.YthmcpmnhdbeahaaGreat.P
open Go Go.RowKit Go.Proofs.YthmcpmnhdbeahaaGreat.D
noncomputable def Zam.E:Env:={ tt:=TT,con:=[],frz:=[],rows:=[],live:=[],n:=8,pin:=0,nils:=[] }
noncomputable def Zam.fn:D.Fn:={ body:=Tryz.f188.body.getD .skip,res:=Tryz.f188.results.toList,ins:=[.one (.v (.int .i64)),.ptr true 100 [.fn [(.int .i64)] .bool]],outs:=[.one (.v .bool)] }
def Zam.enc (y:lsd (flats Zam.fn.outs)×lsd (ios Zam.fn.ins)):Bool:=y.1.1
noncomputable def Zam.f (a0:Int) (f1:Int→Option Bool):Option Bool:=denF Zam.E Zam.fn Zam.enc (a0,fun x=>f1 x.1,())
theorem Zam.f_eq (a0:Int) (f1:Int→Option Bool):Zam.f a0 f1=(f1 a0).bind fun t6=>some (!decide (t6=true)):=by kernel_rfl
noncomputable def Zam.con:Con:=⟨Zam.fn.ins,Zam.fn.outs,Bool,fun x=>Zam.f x.1 (fun z0=>x.2.1 (z0,())),fun r=>((r,()),(()))⟩
theorem Zam.valid:Valid Tryz.prog 188 Zam.con:=fnV Zam.fn Zam.E Zam.enc ⟨ttOk,Zap⟩ Tryz.func188
end Go.Proofs.YthmcpmnhdbeahaaGreat.P
namespace Go.Proofs.YthmcpmnhdbeahaaGreat.P
open Go Go.RowKit Go.Proofs.YthmcpmnhdbeahaaGreat.D
noncomputable def ZaL.E:Env:={ tt:=TT,con:=[(139,ZS.con),(138,Z9.con),(145,Zn.con),(188,Zam.con)],frz:=[],rows:=[],live:=[],n:=10,pin:=0,nils:=[] }
noncomputable def ZaL.fn:D.Fn:={ body:=Tryz.f120.body.getD .skip,res:=Tryz.f120.results.toList,ins:=[.agg [.v (.sl 27 (.sl 2 (.int .i64)))],.one (.fn [(.int .i64)] .bool)],outs:=[.one (.own 2 true (.int .i64))] }
def ZaL.enc (y:lsd (flats ZaL.fn.outs)×lsd (ios ZaL.fn.ins)):(List Int):=y.1.1
noncomputable def ZaL.f (l0_0:List (List Int)) (f1:Int→Option Bool):Option (List Int):=denF ZaL.E ZaL.fn ZaL.enc (l0_0,fun x=>f1 x.1,())
theorem ZaL.f_eq (l0_0:List (List Int)) (f1:Int→Option Bool):ZaL.f l0_0 f1=(ZS.f l0_0).bind fun t6=>(Z9.f t6).bind fun t7=>(Zn.f t7 (fun z0=>(Zam.f z0 (fun u0=>(f1 u0).map fun z=>z)).map fun z=>z)).bind fun t9=>some t9:=by kernel_rfl
noncomputable def ZaL.con:Con:=⟨ZaL.fn.ins,ZaL.fn.outs,(List Int),fun x=>ZaL.f x.1 (fun z0=>x.2.1 (z0,())),fun r=>((r,()),(()))⟩
theorem ZaL.valid:Valid Tryz.prog 120 ZaL.con:=fnV ZaL.fn ZaL.E ZaL.enc ⟨ttOk,(Zf ZS.valid (Zf Z9.valid (Zf Zn.valid (Zf Zam.valid Zap))))⟩ Tryz.func120
end Go.Proofs.YthmcpmnhdbeahaaGreat.P
namespace Go.Proofs.YthmcpmnhdbeahaaGreat.P
open Go Go.RowKit Go.Proofs.YthmcpmnhdbeahaaGreat.D
noncomputable def ZU.E:Env:={ tt:=TT,con:=[(172,Zo.con)],frz:=[],rows:=[],live:=[],n:=16,pin:=0,nils:=[] }
noncomputable def ZU.fn:D.Fn:={ body:=Tryz.f214.body.getD .skip,res:=Tryz.f214.results.toList,ins:=[.one (.v (.int .i64)),.ptr true 26 [.v (.sl 27 (.sl 2 (.int .i64)))],.ptr true 2 [.v (.int .i64)]],outs:=[.one (.v .bool)] }
def ZU.enc (y:lsd (flats ZU.fn.outs)×lsd (ios ZU.fn.ins)):Bool:=y.1.1
noncomputable def ZU.f (a0:Int) (l1:List (List Int)) (a2:Int):Option Bool:=denF ZU.E ZU.fn ZU.enc (a0,l1,a2,())
theorem ZU.f_eq (a0:Int) (l1:List (List Int)) (a2:Int):ZU.f a0 l1 a2=(Zo.f l1 ([a2,a0]:List Int)).bind fun t9=>(Zo.f l1 ([a0,a2]:List Int)).bind fun t14=>some (!decide (t9=t14)):=by kernel_rfl
noncomputable def ZU.con:Con:=⟨ZU.fn.ins,ZU.fn.outs,Bool,fun x=>ZU.f x.1 x.2.1 x.2.2.1,fun r=>((r,()),(()))⟩
theorem ZU.valid:Valid Tryz.prog 214 ZU.con:=fnV ZU.fn ZU.E ZU.enc ⟨ttOk,(Zf Zo.valid Zap)⟩ Tryz.func214
end Go.Proofs.YthmcpmnhdbeahaaGreat.P
namespace Go.Proofs.YthmcpmnhdbeahaaGreat.P
open Go Go.RowKit Go.Proofs.YthmcpmnhdbeahaaGreat.D
noncomputable def Zab.E:Env:={ tt:=TT,con:=[(139,ZS.con),(138,Z9.con),(147,Zz.con),(214,ZU.con)],frz:=[],rows:=[],live:=[],n:=10,pin:=0,nils:=[] }
noncomputable def Zab.fn:D.Fn:={ body:=Tryz.f213.body.getD .skip,res:=Tryz.f213.results.toList,ins:=[.one (.v (.int .i64)),.ptr true 26 [.v (.sl 27 (.sl 2 (.int .i64)))]],outs:=[.one (.v .bool)] }
def Zab.enc (y:lsd (flats Zab.fn.outs)×lsd (ios Zab.fn.ins)):Bool:=y.1.1
noncomputable def Zab.f (a0:Int) (l1:List (List Int)):Option Bool:=denF Zab.E Zab.fn Zab.enc (a0,l1,())
theorem Zab.f_eq (a0:Int) (l1:List (List Int)):Zab.f a0 l1=(ZS.f l1).bind fun t5=>(Z9.f t5).bind fun t6=>(Zz.f t6 (fun z0=>(ZU.f z0 l1 a0).map fun z=>z)).bind fun t8=>some (!decide (t8=true)):=by kernel_rfl
noncomputable def Zab.con:Con:=⟨Zab.fn.ins,Zab.fn.outs,Bool,fun x=>Zab.f x.1 x.2.1,fun r=>((r,()),(()))⟩
theorem Zab.valid:Valid Tryz.prog 213 Zab.con:=fnV Zab.fn Zab.E Zab.enc ⟨ttOk,(Zf ZS.valid (Zf Z9.valid (Zf Zz.valid (Zf ZU.valid Zap))))⟩ Tryz.func213
end Go.Proofs.YthmcpmnhdbeahaaGreat.P
namespace Go.Proofs.YthmcpmnhdbeahaaGreat.P
open Go Go.RowKit Go.Proofs.YthmcpmnhdbeahaaGreat.D
noncomputable def ZaB.E:Env:={ tt:=TT,con:=[(120,ZaL.con),(213,Zab.con)],frz:=[],rows:=[],live:=[],n:=6,pin:=0,nils:=[] }
noncomputable def ZaB.fn:D.Fn:={ body:=Tryz.f141.body.getD .skip,res:=Tryz.f141.results.toList,ins:=[.agg [.v (.sl 27 (.sl 2 (.int .i64)))]],outs:=[.one (.own 2 true (.int .i64))] }
def ZaB.enc (y:lsd (flats ZaB.fn.outs)×lsd (ios ZaB.fn.ins)):(List Int):=y.1.1
noncomputable def ZaB.f (l0_0:List (List Int)):Option (List Int):=denF ZaB.E ZaB.fn ZaB.enc (l0_0,())
theorem ZaB.f_eq (l0_0:List (List Int)):ZaB.f l0_0=(ZaL.f l0_0 (fun z0=>(Zab.f z0 l0_0).map fun z=>z)).bind fun t5=>some t5:=by kernel_rfl
noncomputable def ZaB.con:Con:=⟨ZaB.fn.ins,ZaB.fn.outs,(List Int),fun x=>ZaB.f x.1,fun r=>((r,()),(()))⟩
theorem ZaB.valid:Valid Tryz.prog 141 ZaB.con:=fnV ZaB.fn ZaB.E ZaB.enc ⟨ttOk,(Zf ZaL.valid (Zf Zab.valid Zap))⟩ Tryz.func141
end Go.Proofs.YthmcpmnhdbeahaaGreat.P
namespace Go.Proofs.YthmcpmnhdbeahaaGreat.P
open Go Go.RowKit Go.Proofs.YthmcpmnhdbeahaaGreat.D
noncomputable def ZQ.E:Env:={ tt:=TT,con:=[(131,ZM.con),(132,ZaF.con),(141,ZaB.con)],frz:=[],rows:=[],live:=[],n:=21,pin:=0,nils:=[] }
noncomputable def ZQ.fn:D.Fn:={ body:=Tryz.f59.body.getD .skip,res:=Tryz.f59.results.toList,ins:=[.agg [.v (.sl 27 (.sl 2 (.int .i64)))],.agg [.v (.int .i64),.v (.sl 2 (.int .i64))],.agg [.v (.int .i64),.v (.sl 2 (.int .i64))]],outs:=[.one (.own 2 true (.int .i64)),.one (.v (.int .i64))] }
def ZQ.enc (y:lsd (flats ZQ.fn.outs)×lsd (ios ZQ.fn.ins)):(List Int)×Int:=(y.1.1,y.1.2.1)
noncomputable def ZQ.f (l0_0:List (List Int)) (a1_0:Int) (l1_1:List Int) (a2_0:Int) (l2_1:List Int):Option ((List Int)×Int):=denF ZQ.E ZQ.fn ZQ.enc (l0_0,a1_0,l1_1,a2_0,l2_1,())
theorem ZQ.f_eq (l0_0:List (List Int)) (a1_0:Int) (l1_1:List Int) (a2_0:Int) (l2_1:List Int):ZQ.f l0_0 a1_0 l1_1 a2_0 l2_1=(ZM.f l0_0 a1_0 l1_1 a2_0 l2_1 64).bind fun t12=>if t12=0 then((ZaF.f l0_0 a1_0 l1_1 a2_0 l2_1).bind fun t19=>(ZaB.f t19).bind fun t20=>some (t20,0))else(some (([]:List Int),t12)):=by kernel_rfl
noncomputable def ZQ.con:Con:=⟨ZQ.fn.ins,ZQ.fn.outs,(List Int)×Int,fun x=>ZQ.f x.1 x.2.1 x.2.2.1 x.2.2.2.1 x.2.2.2.2.1,fun r=>((r.1,r.2,()),(()))⟩
theorem ZQ.valid:Valid Tryz.prog 59 ZQ.con:=fnV ZQ.fn ZQ.E ZQ.enc ⟨ttOk,(Zf ZM.valid (Zf ZaF.valid (Zf ZaB.valid Zap)))⟩ Tryz.func59
end Go.Proofs.YthmcpmnhdbeahaaGreat.P
namespace Go.Proofs.YthmcpmnhdbeahaaGreat.P
open Go Go.RowKit Go.Proofs.YthmcpmnhdbeahaaGreat.D
noncomputable def Ze.E:Env:={ tt:=TT,con:=[(133,Zaq.con),(134,ZL.con)],frz:=[24],rows:=[],live:=[(6,[9,10,11]),(10,[9,10,11,12,13])],n:=62,pin:=0,nils:=[12] }
noncomputable def Ze.fn:D.Fn:={ body:=Tryz.f60.body.getD .skip,res:=Tryz.f60.results.toList,ins:=[.agg [.v (.sl 27 (.sl 2 (.int .i64)))],.agg [.v (.int .i64),.v (.sl 2 (.int .i64))],.agg [.v (.int .i64),.v (.sl 2 (.int .i64))]],outs:=[.one (.own 2 true (.int .i64)),.one (.v (.int .i64))] }
def Ze.enc (y:lsd (flats Ze.fn.outs)×lsd (ios Ze.fn.ins)):(List Int)×Int:=(y.1.1,y.1.2.1)
noncomputable def Ze.f (l0_0:List (List Int)) (a1_0:Int) (l1_1:List Int) (a2_0:Int) (l2_1:List Int):Option ((List Int)×Int):=denF Ze.E Ze.fn Ze.enc (l0_0,a1_0,l1_1,a2_0,l2_1,())
noncomputable def Ze.l0 (x9:List (List Int)) (x11:Int) (r0:List Int):Option ((List Int)×Int):=denAt Ze.E Ze.fn Ze.enc [1,1,1,0,1,0] { fr:=[(9,.lf (.sl (.sl 2 (.int .i64)) x9)),(10,.lf (.own 0)),(11,.lf (.int .i64 x11))],ob:=[(0,.row 2 true (.int .i64) r0)],nx:=1 }
noncomputable def Ze.l1 (x9:List (List Int)) (x11:Int) (x12:Bool) (x13:Int) (r0:List Int):Option ((List Int)×Int):=denAt Ze.E Ze.fn Ze.enc [1,1,1,0,1,0,0,1,0,0,1,0,1,0] { fr:=[(9,.lf (.sl (.sl 2 (.int .i64)) x9)),(10,.lf (.own 0)),(11,.lf (.int .i64 x11)),(12,.lf (ZgP x12)),(13,.lf (.int .i64 x13))],ob:=[(0,.row 2 true (.int .i64) r0)],nx:=1 }
theorem Ze.f_eq (l0_0:List (List Int)) (a1_0:Int) (l1_1:List Int) (a2_0:Int) (l2_1:List Int):Ze.f l0_0 a1_0 l1_1 a2_0 l2_1=(Zaq.f l0_0 a1_0 l1_1 a2_0 l2_1 64).bind fun t17=>if t17=0 then((ZL.f l0_0 a1_0 l1_1 a2_0 l2_1).bind fun t24=>Ze.l0 t24 0 ([]:List Int))else(some (([]:List Int),t17)):=by kernel_rfl
theorem Ze.l0_eq (x9:List (List Int)) (x11:Int) (r0:List Int):Ze.l0 x9 x11 r0=if x11 < (x9.length:Int)then(Ze.l1 x9 x11 true 0 r0)else(some (r0,0)):=(Zm _ _ _ _).trans (by kernel_rfl)
theorem Ze.l1_eq (x9:List (List Int)) (x11:Int) (x12:Bool) (x13:Int) (r0:List Int):Ze.l1 x9 x11 x12 x13 r0=if x13 < (x9.length:Int)then(if x12=true then(if 0≤x11 then(if x11 < (x9.length:Int)then(if 0≤x13 then(if x13 < ((row x9 x11).length:Int)then(if 0≤x13 then(if x13 < (x9.length:Int)then(if 0≤x11 then(if x11 < ((row x9 x13).length:Int)then(Ze.l1 x9 x11 (decide ((T x9 x11 x13)=(T x9 x13 x11))) (wrapI (x13+1)) r0)else none)else none)else none)else none)else none)else none)else none)else none)else(Ze.l1 x9 x11 false (wrapI (x13+1)) r0))else(if x12=true then(if r0.length+([x11]:List Int).length≤17592186044416 then(Ze.l0 x9 (wrapI (x11+1)) (r0++([x11]:List Int)))else none)else(Ze.l0 x9 (wrapI (x11+1)) r0)):=(Zm _ _ _ _).trans (by kernel_rfl)
noncomputable def Ze.con:Con:=⟨Ze.fn.ins,Ze.fn.outs,(List Int)×Int,fun x=>Ze.f x.1 x.2.1 x.2.2.1 x.2.2.2.1 x.2.2.2.2.1,fun r=>((r.1,r.2,()),(()))⟩
theorem Ze.valid:Valid Tryz.prog 60 Ze.con:=fnV Ze.fn Ze.E Ze.enc ⟨ttOk,(Zf Zaq.valid (Zf ZL.valid Zap))⟩ Tryz.func60
end Go.Proofs.YthmcpmnhdbeahaaGreat.P
namespace Go.Proofs.YthmcpmnhdbeahaaGreat.P
open Go Go.RowKit Go.Proofs.YthmcpmnhdbeahaaGreat.D
noncomputable def Za3.E:Env:={ tt:=TT,con:=[(228,ZaT.con)],frz:=[],rows:=[],live:=[],n:=9,pin:=0,nils:=[] }
noncomputable def Za3.fn:D.Fn:={ body:=Tryz.f215.body.getD .skip,res:=Tryz.f215.results.toList,ins:=[.agg [.v (.sl 27 (.sl 2 (.int .i64)))],.one (.v (.int .i64))],outs:=[.one (.v .bool)] }
def Za3.enc (y:lsd (flats Za3.fn.outs)×lsd (ios Za3.fn.ins)):Bool:=y.1.1
noncomputable def Za3.f (l0_0:List (List Int)) (a1:Int):Option Bool:=denF Za3.E Za3.fn Za3.enc (l0_0,a1,())
theorem Za3.f_eq (l0_0:List (List Int)) (a1:Int):Za3.f l0_0 a1=(ZaT.f l0_0 a1).bind fun t7=>some (decide (t7≤49)):=by kernel_rfl
noncomputable def Za3.con:Con:=⟨Za3.fn.ins,Za3.fn.outs,Bool,fun x=>Za3.f x.1 x.2.1,fun r=>((r,()),(()))⟩
theorem Za3.valid:Valid Tryz.prog 215 Za3.con:=fnV Za3.fn Za3.E Za3.enc ⟨ttOk,(Zf ZaT.valid Zap)⟩ Tryz.func215
end Go.Proofs.YthmcpmnhdbeahaaGreat.P
namespace Go.Proofs.YthmcpmnhdbeahaaGreat.P
open Go Go.RowKit Go.Proofs.YthmcpmnhdbeahaaGreat.D
noncomputable def ZaG.E:Env:={ tt:=TT,con:=[(124,ZH.con),(215,Za3.con)],frz:=[],rows:=[11],live:=[],n:=21,pin:=0,nils:=[] }
noncomputable def ZaG.fn:D.Fn:={ body:=Tryz.f142.body.getD .skip,res:=Tryz.f142.results.toList,ins:=[.agg [.v (.sl 27 (.sl 2 (.int .i64)))],.agg [.v (.int .i64),.v (.sl 2 (.int .i64))],.agg [.v (.int .i64),.v (.sl 2 (.int .i64))]],outs:=[.one (.v (.int .i64))] }
def ZaG.enc (y:lsd (flats ZaG.fn.outs)×lsd (ios ZaG.fn.ins)):Int:=y.1.1
noncomputable def ZaG.f (l0_0:List (List Int)) (a1_0:Int) (l1_1:List Int) (a2_0:Int) (l2_1:List Int):Option Int:=denF ZaG.E ZaG.fn ZaG.enc (l0_0,a1_0,l1_1,a2_0,l2_1,())
theorem ZaG.f_eq (l0_0:List (List Int)) (a1_0:Int) (l1_1:List Int) (a2_0:Int) (l2_1:List Int):ZaG.f l0_0 a1_0 l1_1 a2_0 l2_1=(ZH.f l0_0 a1_0 l1_1 ([(a2_0,l2_1)]:List (Int×(List Int)))).bind fun t12=>if t12=0 then((Za3.f l0_0 a2_0).bind fun t19=>if t19=true then(some 0)else(some 3))else(some t12):=by kernel_rfl
noncomputable def ZaG.con:Con:=⟨ZaG.fn.ins,ZaG.fn.outs,Int,fun x=>ZaG.f x.1 x.2.1 x.2.2.1 x.2.2.2.1 x.2.2.2.2.1,fun r=>((r,()),(()))⟩
theorem ZaG.valid:Valid Tryz.prog 142 ZaG.con:=fnV ZaG.fn ZaG.E ZaG.enc ⟨ttOk,(Zf ZH.valid (Zf Za3.valid Zap))⟩ Tryz.func142
end Go.Proofs.YthmcpmnhdbeahaaGreat.P
namespace Go.Proofs.YthmcpmnhdbeahaaGreat.P
open Go Go.RowKit Go.Proofs.YthmcpmnhdbeahaaGreat.D
noncomputable def Zai.E:Env:={ tt:=TT,con:=[(228,ZaT.con),(227,ZaW.con),(211,Zbm.con),(192,ZaK.con),(229,Zx.con)],frz:=[39],rows:=[],live:=[(5,[2,3,4,7,22,23])],n:=43,pin:=0,nils:=[] }
noncomputable def Zai.fn:D.Fn:={ body:=Tryz.f168.body.getD .skip,res:=Tryz.f168.results.toList,ins:=[.agg [.v (.sl 27 (.sl 2 (.int .i64)))],.agg [.v (.int .i64),.v (.sl 2 (.int .i64))],.one (.v (.int .i64))],outs:=[.ptr false 187 [.v (.int .i64),.own 27 false (.sl 1000002 (.int .i64))]] }
def Zai.enc (y:lsd (flats Zai.fn.outs)×lsd (ios Zai.fn.ins)):Int×(List (List Int)):=(y.1.1,y.1.2.1)
noncomputable def Zai.f (l0_0:List (List Int)) (a1_0:Int) (l1_1:List Int) (a2:Int):Option (Int×(List (List Int))):=denF Zai.E Zai.fn Zai.enc (l0_0,a1_0,l1_1,a2,())
noncomputable def Zai.l0 (x2:Int) (x22:Int) (x23:Int) (b0_0:List (List Int)) (b1_0:Int) (b1_1:List Int) (b2_0:Int) (r3:List (List Int)):Option (Int×(List (List Int))):=denAt Zai.E Zai.fn Zai.enc [1,1,1,0,1,0] { fr:=[(2,.lf (.int .i64 x2)),(3,.lf (.box 0 0)),(4,.lf (.box 1 0)),(7,.lf (.box 2 0)),(22,.lf (.int .i64 x22)),(23,.lf (.int .i64 x23))],ob:=[(0,.box 26 false [.sl (.sl 2 (.int .i64)) b0_0]),(1,.box 29 false [.int .i64 b1_0,.sl (.int .i64) b1_1]),(2,.box 187 false [.int .i64 b2_0,.own 3]),(3,.row 27 false (.sl 1000002 (.int .i64)) r3)],nx:=4 }
theorem Zai.f_eq (l0_0:List (List Int)) (a1_0:Int) (l1_1:List Int) (a2:Int):Zai.f l0_0 a1_0 l1_1 a2=(ZaT.f l0_0 a2).bind fun t14=>(ZaW.f a1_0 t14).bind fun t15=>if a2=0 then(some (t15.1,t15.2))else((ZaT.f l0_0 (wrapI (a2 - 1))).bind fun t22=>Zai.l0 a2 t22 0 l0_0 a1_0 l1_1 t15.1 t15.2):=by kernel_rfl
theorem Zai.l0_eq (x2:Int) (x22:Int) (x23:Int) (b0_0:List (List Int)) (b1_0:Int) (b1_1:List Int) (b2_0:Int) (r3:List (List Int)):Zai.l0 x2 x22 x23 b0_0 b1_0 b1_1 b2_0 r3=if x23 < x22 then((Zbm.f b0_0 (wrapI (x2 - 1))).bind fun t29=>if 0≤x23 then(if x23 < (t29.2.length:Int)then(if 0≤x23 then(if x23 < (t29.2.length:Int)then((ZaK.f b0_0 b1_0 b1_1 t29.1 (t29.2.set (x23:Int).toNat 1)).bind fun t38=>(Zx.f b2_0 r3 t38.2).bind fun t40=>Zai.l0 x2 x22 (wrapI (x23+1)) b0_0 b1_0 b1_1 t40.1 t40.2)else none)else none)else none)else none)else(some (b2_0,r3)):=(Zm _ _ _ _).trans (by kernel_rfl)
noncomputable def Zai.con:Con:=⟨Zai.fn.ins,Zai.fn.outs,Int×(List (List Int)),fun x=>Zai.f x.1 x.2.1 x.2.2.1 x.2.2.2.1,fun r=>((r.1,r.2,()),(()))⟩
theorem Zai.valid:Valid Tryz.prog 168 Zai.con:=fnV Zai.fn Zai.E Zai.enc ⟨ttOk,(Zf ZaT.valid (Zf ZaW.valid (Zf Zbm.valid (Zf ZaK.valid (Zf Zx.valid Zap)))))⟩ Tryz.func168
end Go.Proofs.YthmcpmnhdbeahaaGreat.P
namespace Go.Proofs.YthmcpmnhdbeahaaGreat.P
open Go Go.RowKit Go.Proofs.YthmcpmnhdbeahaaGreat.D
noncomputable def ZaQ.E:Env:={ tt:=TT,con:=[(168,Zai.con),(217,ZaH.con),(216,Zbh.con)],frz:=[],rows:=[],live:=[],n:=16,pin:=0,nils:=[] }
noncomputable def ZaQ.fn:D.Fn:={ body:=Tryz.f143.body.getD .skip,res:=Tryz.f143.results.toList,ins:=[.agg [.v (.sl 27 (.sl 2 (.int .i64)))],.agg [.v (.int .i64),.v (.sl 2 (.int .i64))],.agg [.v (.int .i64),.v (.sl 2 (.int .i64))]],outs:=[.one (.v .bool)] }
def ZaQ.enc (y:lsd (flats ZaQ.fn.outs)×lsd (ios ZaQ.fn.ins)):Bool:=y.1.1
noncomputable def ZaQ.f (l0_0:List (List Int)) (a1_0:Int) (l1_1:List Int) (a2_0:Int) (l2_1:List Int):Option Bool:=denF ZaQ.E ZaQ.fn ZaQ.enc (l0_0,a1_0,l1_1,a2_0,l2_1,())
theorem ZaQ.f_eq (l0_0:List (List Int)) (a1_0:Int) (l1_1:List Int) (a2_0:Int) (l2_1:List Int):ZaQ.f l0_0 a1_0 l1_1 a2_0 l2_1=(Zai.f l0_0 a1_0 l1_1 a2_0).bind fun t11=>(ZaH.f t11.1 t11.2 a2_0 l2_1).bind fun t13=>(Zbh.f t13.2.1).bind fun t15=>some (decide (t15=true)):=by kernel_rfl
noncomputable def ZaQ.con:Con:=⟨ZaQ.fn.ins,ZaQ.fn.outs,Bool,fun x=>ZaQ.f x.1 x.2.1 x.2.2.1 x.2.2.2.1 x.2.2.2.2.1,fun r=>((r,()),(()))⟩
theorem ZaQ.valid:Valid Tryz.prog 143 ZaQ.con:=fnV ZaQ.fn ZaQ.E ZaQ.enc ⟨ttOk,(Zf Zai.valid (Zf ZaH.valid (Zf Zbh.valid Zap)))⟩ Tryz.func143
end Go.Proofs.YthmcpmnhdbeahaaGreat.P
namespace Go.Proofs.YthmcpmnhdbeahaaGreat.P
open Go Go.RowKit Go.Proofs.YthmcpmnhdbeahaaGreat.D
noncomputable def ZaP.E:Env:={ tt:=TT,con:=[(142,ZaG.con),(143,ZaQ.con)],frz:=[],rows:=[],live:=[],n:=20,pin:=0,nils:=[] }
noncomputable def ZaP.fn:D.Fn:={ body:=Tryz.f61.body.getD .skip,res:=Tryz.f61.results.toList,ins:=[.agg [.v (.sl 27 (.sl 2 (.int .i64)))],.agg [.v (.int .i64),.v (.sl 2 (.int .i64))],.agg [.v (.int .i64),.v (.sl 2 (.int .i64))]],outs:=[.one (.v .bool),.one (.v (.int .i64))] }
def ZaP.enc (y:lsd (flats ZaP.fn.outs)×lsd (ios ZaP.fn.ins)):Bool×Int:=(y.1.1,y.1.2.1)
noncomputable def ZaP.f (l0_0:List (List Int)) (a1_0:Int) (l1_1:List Int) (a2_0:Int) (l2_1:List Int):Option (Bool×Int):=denF ZaP.E ZaP.fn ZaP.enc (l0_0,a1_0,l1_1,a2_0,l2_1,())
theorem ZaP.f_eq (l0_0:List (List Int)) (a1_0:Int) (l1_1:List Int) (a2_0:Int) (l2_1:List Int):ZaP.f l0_0 a1_0 l1_1 a2_0 l2_1=(ZaG.f l0_0 a1_0 l1_1 a2_0 l2_1).bind fun t12=>if t12=0 then((ZaQ.f l0_0 a1_0 l1_1 a2_0 l2_1).bind fun t19=>some (decide (t19=true),0))else(some (false,t12)):=by kernel_rfl
noncomputable def ZaP.con:Con:=⟨ZaP.fn.ins,ZaP.fn.outs,Bool×Int,fun x=>ZaP.f x.1 x.2.1 x.2.2.1 x.2.2.2.1 x.2.2.2.2.1,fun r=>((r.1,r.2,()),(()))⟩
theorem ZaP.valid:Valid Tryz.prog 61 ZaP.con:=fnV ZaP.fn ZaP.E ZaP.enc ⟨ttOk,(Zf ZaG.valid (Zf ZaQ.valid Zap))⟩ Tryz.func61
end Go.Proofs.YthmcpmnhdbeahaaGreat.P
namespace Go.Proofs.YthmcpmnhdbeahaaGreat.P
open Go Go.RowKit Go.Proofs.YthmcpmnhdbeahaaGreat.D
noncomputable def Zh.E:Env:={ tt:=TT,con:=[(7,ZbA.con),(49,ZP.con),(50,Zaa.con),(51,Zac.con),(52,Za6.con),(53,Zbn.con),(54,Zbo.con),(55,Zat.con),(56,Zau.con),(16,Zae.con),(57,ZR.con),(58,Zg.con),(59,ZQ.con),(60,Ze.con),(61,ZaP.con)],frz:=[37],rows:=[],live:=[(31,[3,4,6,14,18,28,29]),(36,[3,4,6,14,30]),(39,[3,4,6,14,30,31])],n:=288,pin:=0,nils:=[] }
noncomputable def Zh.fn:D.Fn:={ body:=Tryz.f5.body.getD .skip,res:=Tryz.f5.results.toList,ins:=[.one (.v (.sl 5 (.int .u8)))],outs:=[.one (.v .bool)] }
def Zh.enc (y:lsd (flats Zh.fn.outs)×lsd (ios Zh.fn.ins)):Bool:=y.1.1
noncomputable def Zh.f (l0:List Int):Option Bool:=denF Zh.E Zh.fn Zh.enc (l0,())
noncomputable def Zh.l0 (x28:Int) (x29:Int) (b0_0:List (List Int)) (b1_0:Int) (b1_1:List Int) (r2:List (List Int)) (r3:List Int) (r4:List Int):Option Bool:=denAt Zh.E Zh.fn Zh.enc [1,1,1,1,1,1,1,1,1,1,1,1,1,1,1,1,1,0,1,0] { fr:=[(3,.lf (.box 0 0)),(4,.lf (.box 1 0)),(6,.lf (.own 2)),(14,.lf (.own 3)),(18,.lf (.own 4)),(28,.lf (.int .i64 x28)),(29,.lf (.int .i64 x29))],ob:=[(0,.box 26 false [.sl (.sl 2 (.int .i64)) b0_0]),(1,.box 29 false [.int .i64 b1_0,.sl (.int .i64) b1_1]),(2,.row 27 true (.sl 2 (.int .i64)) r2),(3,.row 2 true (.int .i64) r3),(4,.row 2 true (.int .i64) r4)],nx:=5 }
noncomputable def Zh.l1 (x30:Int) (b0_0:List (List Int)) (b1_0:Int) (b1_1:List Int) (r2:List (List Int)) (r3:List Int):Option Bool:=denAt Zh.E Zh.fn Zh.enc [1,1,1,1,1,1,1,1,1,1,1,1,1,1,1,1,1,1,0,1,0] { fr:=[(3,.lf (.box 0 0)),(4,.lf (.box 1 0)),(6,.lf (.own 2)),(14,.lf (.own 3)),(30,.lf (.int .i64 x30))],ob:=[(0,.box 26 false [.sl (.sl 2 (.int .i64)) b0_0]),(1,.box 29 false [.int .i64 b1_0,.sl (.int .i64) b1_1]),(2,.row 27 true (.sl 2 (.int .i64)) r2),(3,.row 2 true (.int .i64) r3)],nx:=4 }
noncomputable def Zh.l2 (x30:Int) (x31:Int) (b0_0:List (List Int)) (b1_0:Int) (b1_1:List Int) (r2:List (List Int)) (r3:List Int):Option Bool:=denAt Zh.E Zh.fn Zh.enc [1,1,1,1,1,1,1,1,1,1,1,1,1,1,1,1,1,1,0,1,0,0,1,0,0,1,0] { fr:=[(3,.lf (.box 0 0)),(4,.lf (.box 1 0)),(6,.lf (.own 2)),(14,.lf (.own 3)),(30,.lf (.int .i64 x30)),(31,.lf (.int .i64 x31))],ob:=[(0,.box 26 false [.sl (.sl 2 (.int .i64)) b0_0]),(1,.box 29 false [.int .i64 b1_0,.sl (.int .i64) b1_1]),(2,.row 27 true (.sl 2 (.int .i64)) r2),(3,.row 2 true (.int .i64) r3)],nx:=4 }
theorem Zh.f_eq (l0:List Int):Zh.f l0=(ZbA.f l0).bind fun t34=>if t34=true then(some true)else((ZP.f l0).bind fun t37=>(Zaa.f t37.1 t37.2.1 t37.2.2.1 t37.2.2.2.1 t37.2.2.2.2).bind fun t45=>(Zac.f t37.1 t37.2.1 t37.2.2.1 t37.2.2.2.1 t37.2.2.2.2).bind fun t52=>if t45.2=t52.2 then((Za6.f t45.1 t52.1).bind fun t61=>if t61=true then((Zbn.f t37.1 t37.2.1 t37.2.2.1 t37.2.2.2.1 t37.2.2.2.2).bind fun t68=>(Zbo.f t37.1 t37.2.1 t37.2.2.1 t37.2.2.2.1 t37.2.2.2.2).bind fun t75=>if t68.2=t75.2 then(if(decide (t68.1=true))=(decide (t75.1=true))then((Zat.f t37.1 t37.2.1 t37.2.2.1 t37.2.2.2.1 t37.2.2.2.2).bind fun t90=>(Zau.f t37.1 t37.2.1 t37.2.2.1 t37.2.2.2.1 t37.2.2.2.2).bind fun t97=>if t90.2=t97.2 then((Zae.f t90.1 t97.1).bind fun t106=>if t106=true then((ZR.f t37.1 t37.2.1 t37.2.2.1 t37.2.2.2.1 t37.2.2.2.2).bind fun t113=>(Zg.f t37.1 t37.2.1 t37.2.2.1 t37.2.2.2.1 t37.2.2.2.2).bind fun t120=>if t113.2=t120.2 then((Zae.f t113.1 t120.1).bind fun t129=>if t129=true then((ZQ.f t37.1 t37.2.1 t37.2.2.1 t37.2.2.2.1 t37.2.2.2.2).bind fun t136=>(Ze.f t37.1 t37.2.1 t37.2.2.1 t37.2.2.2.1 t37.2.2.2.2).bind fun t143=>if t136.2=t143.2 then((Zae.f t136.1 t143.1).bind fun t152=>if t152=true then(if t45.2=0 then((ZaP.f t37.1 t37.2.1 t37.2.2.1 t37.2.2.2.1 t37.2.2.2.2).bind fun t169=>if(t45.1.length:Int)=(wrapI ((t37.1.length:Int)*t37.2.1))then(if t68.2=0 then(if t169.2=0 then(if(decide (t169.1=true))=(decide (t68.1=true))then(if(decide (t68.1=true))=(decide (t90.2=0))then(if t113.2=0 then(if 0 < (t113.1.length:Int)then(if 0 < (t113.1.length:Int)then(if(rd t113.1 0)=1 then(if t136.2=0 then(if(t136.1.length:Int)=0 then none else(if((wrapI ((t37.1.length:Int)*t37.2.1):Int).tmod (t136.1.length:Int))=0 then(Zh.l0 (wrapI ((t37.1.length:Int)*t37.2.1)) 0 t37.1 t37.2.1 t37.2.2.1 t45.1 t90.1 t113.1)else(some false)))else(some false))else(some false))else none)else none)else(some false))else(some false))else(some false))else(if(decide (t68.1=true))=(decide (t90.2=0))then(if t113.2=0 then(if 0 < (t113.1.length:Int)then(if 0 < (t113.1.length:Int)then(if(rd t113.1 0)=1 then(if t136.2=0 then(if(t136.1.length:Int)=0 then none else(if((wrapI ((t37.1.length:Int)*t37.2.1):Int).tmod (t136.1.length:Int))=0 then(Zh.l0 (wrapI ((t37.1.length:Int)*t37.2.1)) 0 t37.1 t37.2.1 t37.2.2.1 t45.1 t90.1 t113.1)else(some false)))else(some false))else(some false))else none)else none)else(some false))else(some false)))else(some false))else(some false))else(if(t45.1.length:Int)=0 then(some (decide (t68.2=t45.2)))else(some false)))else(some false))else(some false))else(some false))else(some false))else(some false))else(some false))else(some false))else(some false))else(some false))else(some false)):=by kernel_rfl
theorem Zh.l0_eq (x28:Int) (x29:Int) (b0_0:List (List Int)) (b1_0:Int) (b1_1:List Int) (r2:List (List Int)) (r3:List Int) (r4:List Int):Zh.l0 x28 x29 b0_0 b1_0 b1_1 r2 r3 r4=if x29 < (r4.length:Int)then(if 0≤x29 then(if x29 < (r4.length:Int)then(if 0≤x29 then(if x29 < (r4.length:Int)then(if(rd r4 x29)=0 then none else(if((x28:Int).tmod (rd r4 x29))=0 then(Zh.l0 x28 (wrapI (x29+1)) b0_0 b1_0 b1_1 r2 r3 r4)else(some false)))else none)else none)else none)else none)else(Zh.l1 0 b0_0 b1_0 b1_1 r2 r3):=(Zm _ _ _ _).trans (by kernel_rfl)
theorem Zh.l1_eq (x30:Int) (b0_0:List (List Int)) (b1_0:Int) (b1_1:List Int) (r2:List (List Int)) (r3:List Int):Zh.l1 x30 b0_0 b1_0 b1_1 r2 r3=if x30 < (r3.length:Int)then(Zh.l2 x30 0 b0_0 b1_0 b1_1 r2 r3)else(some true):=(Zm _ _ _ _).trans (by kernel_rfl)
theorem Zh.l2_eq (x30:Int) (x31:Int) (b0_0:List (List Int)) (b1_0:Int) (b1_1:List Int) (r2:List (List Int)) (r3:List Int):Zh.l2 x30 x31 b0_0 b1_0 b1_1 r2 r3=if x31 < (r3.length:Int)then(if 0≤x30 then(if x30 < (b0_0.length:Int)then(if 0≤x31 then(if x31 < ((row b0_0 x30).length:Int)then(if 0≤x30 then(if x30 < (r3.length:Int)then(if 0≤x30 then(if x30 < (r3.length:Int)then(if 0≤wrapI ((wrapI (b1_0*x30))+(rd r3 x30))then(if wrapI ((wrapI (b1_0*x30))+(rd r3 x30)) < (r2.length:Int)then(if 0≤wrapI ((wrapI (b1_0*x30))+(rd r3 x30))then(if wrapI ((wrapI (b1_0*x30))+(rd r3 x30)) < (r2.length:Int)then(if 0≤x31 then(if x31 < (r3.length:Int)then(if 0≤x31 then(if x31 < (r3.length:Int)then(if 0≤wrapI ((wrapI (b1_0*x31))+(rd r3 x31))then(if wrapI ((wrapI (b1_0*x31))+(rd r3 x31)) < ((row r2 (wrapI ((wrapI (b1_0*x30))+(rd r3 x30)))).length:Int)then(if 0≤wrapI ((wrapI (b1_0*x31))+(rd r3 x31))then(if wrapI ((wrapI (b1_0*x31))+(rd r3 x31)) < ((row r2 (wrapI ((wrapI (b1_0*x30))+(rd r3 x30)))).length:Int)then(if 0≤T b0_0 x30 x31 then(if T b0_0 x30 x31 < (r3.length:Int)then(if 0≤T b0_0 x30 x31 then(if T b0_0 x30 x31 < (r3.length:Int)then(if(T r2 (wrapI ((wrapI (b1_0*x30))+(rd r3 x30))) (wrapI ((wrapI (b1_0*x31))+(rd r3 x31))))=(wrapI ((wrapI (b1_0*(T b0_0 x30 x31)))+(rd r3 (T b0_0 x30 x31))))then(Zh.l2 x30 (wrapI (x31+1)) b0_0 b1_0 b1_1 (r2.set (wrapI ((wrapI (b1_0*x30))+(rd r3 x30)):Int).toNat (row r2 (wrapI ((wrapI (b1_0*x30))+(rd r3 x30))))) r3)else(some false))else none)else none)else none)else none)else none)else none)else none)else none)else none)else none)else none)else none)else none)else none)else none)else none)else none)else none)else none)else none)else none)else none)else none)else none)else(Zh.l1 (wrapI (x30+1)) b0_0 b1_0 b1_1 r2 r3):=(Zm _ _ _ _).trans (by kernel_rfl)
noncomputable def Zh.con:Con:=⟨Zh.fn.ins,Zh.fn.outs,Bool,fun x=>Zh.f x.1,fun r=>((r,()),(()))⟩
theorem Zh.valid:Valid Tryz.prog 5 Zh.con:=fnV Zh.fn Zh.E Zh.enc ⟨ttOk,(Zf ZbA.valid (Zf ZP.valid (Zf Zaa.valid (Zf Zac.valid (Zf Za6.valid (Zf Zbn.valid (Zf Zbo.valid (Zf Zat.valid (Zf Zau.valid (Zf Zae.valid (Zf ZR.valid (Zf Zg.valid (Zf ZQ.valid (Zf Ze.valid (Zf ZaP.valid Zap)))))))))))))))⟩ Tryz.func5
end Go.Proofs.YthmcpmnhdbeahaaGreat.P
namespace Go.Proofs.YthmcpmnhdbeahaaGreat.P
open Go Go.RowKit Go.Proofs.YthmcpmnhdbeahaaGreat.D
end Go.Proofs.YthmcpmnhdbeahaaGreat.P
namespace Go.Proofs.YthmcpmnhdbeahaaGreat.P
open Go Go.RowKit Go.Proofs.YthmcpmnhdbeahaaGreat.D
end Go.Proofs.YthmcpmnhdbeahaaGreat.P
namespace Go.Proofs.YthmcpmnhdbeahaaGreat.P
open Go Go.RowKit Go.Proofs.YthmcpmnhdbeahaaGreat.D
end Go.Proofs.YthmcpmnhdbeahaaGreat.P
namespace Go.Proofs.YthmcpmnhdbeahaaGreat.V
open Go Go.RowKit Go.Proofs.YthmcpmnhdbeahaaGreat.D
theorem w64 {x:Int} (h0 : -9223372036854775808≤x) (h1:x≤9223372036854775807):wrapI x=x:=by unfold wrapI;rw[ZcW];unfold wrap64;omega
theorem wn {j:Nat} (h:j < 4611686018427387904):wrapI ((j:Int)+1)=((j+1:Nat):Int):=by rw[w64 (by omega) (by omega)];omega
theorem Zj {α : Type} {p:Prop} {inst:Decidable p} {a b r : α} (h:p) (k:a=r):(if p then a else b)=r:=by rw[if_pos h];exact k
theorem Zi {α : Type} {p:Prop} {inst:Decidable p} {a b r : α} (h:¬ p) (k:b=r):(if p then a else b)=r:=by rw[if_neg h];exact k
theorem Za {α β : Type} {c:Option α} {f : α → Option β} {a : α} {r:Option β} (h:c=some a) (k:f a=r):c.bind f=r:=by rw[h];exact k
theorem ZcI:maxLen≤9223372036854775807:=by unfold maxLen;omega
theorem Zeg {n:Nat} (h:n≤9223372036854775807):n≤maxLen:=by unfold maxLen;omega
noncomputable def ite_ {α : Type} (p:Prop) (a b : α) : α := @ite α p (Classical.propDecidable p) a b
theorem Zb0 {α : Type} {p:Prop} (h:p) (a b : α):ite_ p a b=a:=by unfold ite_;simp[h]
theorem ZbP {α : Type} {p:Prop} (h:¬ p) (a b : α):ite_ p a b=b:=by unfold ite_;simp[h]
noncomputable def B (p:Prop):Bool := @decide p (Classical.propDecidable p)
theorem B_pos {p:Prop} (h:p):B p=true:=by unfold B;simp[h]
theorem B_neg {p:Prop} (h:¬ p):B p=false:=by unfold B;simp[h]
theorem B_not {p:Prop} (h:¬ p):¬ (B p=true):=by rw[B_neg h];decide
theorem B_iff {p:Prop}:B p=true↔p:=by unfold B;simp
theorem ZbT {p q:Prop} (h:p↔q):B p=B q:=by rw[show p=q from propext h]
theorem ZeW (p:Prop) {inst:Decidable p}:decide p=B p:=by by_cases h:p <;> simp[h,B]
theorem ZlA:B True=true:=B_pos trivial
theorem scan {R:Type} (n:Nat) (L:Int→R) (P:Int→Prop) (bad:R)
  (hs:∀i:Int,0≤i→i < n→(∀j:Int,0≤j→j < i→P j)→(P i→L i=L (i+1))∧(¬ P i→L i=bad)) :
  ((∀j:Int,0≤j→j < n→P j)∧L 0=L n)∨(∃m:Int,0≤m∧m < n∧(∀j:Int,0≤j→j < m→P j)∧¬ P m∧L 0=L m∧L 0=bad):=by
 suffices H:∀d m:Nat,m+d=n→(∀j:Int,0≤j→j < m→P j) →
   ((∀j:Int,0≤j→j < n→P j)∧L m=L n)∨(∃i:Int,0≤i∧i < n∧(∀j:Int,0≤j→j < i→P j)∧¬ P i∧L m=L i∧L m=bad)by
  simpa using H n 0 (by omega) (fun j h0 h1=>by omega)
 intro d
 induction d with
 | zero =>
  intro m hm hp
  have:(m:Int)=n:=by omega
  rw[this]at hp ⊢
  exact .inl ⟨hp,rfl⟩
 | succ d ih =>
  intro m hm hp
  obtain⟨h1,h2⟩:=hs m (by omega) (by omega) hp
  by_cases h:P m
  ·
   have hp' : ∀j:Int,0≤j→j < ((m+1:Nat):Int)→P j:=fun j h0 hj=>by
    by_cases e:j=m
    ·
     rw[e];exact h
    ·
     exact hp j h0 (by omega)
   have:=ih (m+1) (by omega) hp'
   rwa[Int.natCast_add,Int.natCast_one,←h1 h]at this
  ·
   exact .inr ⟨m,by omega,by omega,hp,h,rfl,h2 h⟩
theorem scanB (n:Nat) (L:Int→Option Bool) (P:Int→Prop) (Q:Prop)
  (hs:∀i:Int,0≤i→i < n→(∀j:Int,0≤j→j < i→P j)→(P i→L i=L (i+1))∧(¬ P i→L i=some false))
  (he:(∀j:Int,0≤j→j < n→P j)→L n=some (B Q)):L 0=some (B ((∀j:Int,0≤j→j < n→P j)∧Q)):=by
 rcases scan n L P (some false) hs with ⟨h1,h2⟩|⟨j,h0,h1,_,h2,_,h3⟩
 ·
  rw[ZbT (show((∀j:Int,0≤j→j < n→P j)∧Q)↔Q from⟨fun h=>h.2,fun h=>⟨h1,h⟩⟩),h2]
  exact he h1
 ·
  rw[B_neg fun h=>h2 (h.1 j h0 h1)]
  exact h3
theorem scanT (n:Nat) (L:Int→Option Bool) (P:Int→Prop)
  (hs:∀i:Int,0≤i→i < n→(∀j:Int,0≤j→j < i→P j)→(P i→L i=L (i+1))∧(¬ P i→L i=some false))
  (he:(∀j:Int,0≤j→j < n→P j)→L n=some true):L 0=some (B (∀j:Int,0≤j→j < n→P j)):=by
 have:=scanB n L P True hs (fun h=>by rw[ZlA];exact he h)
 rwa[ZbT (show((∀j:Int,0≤j→j < n→P j)∧True)↔_ from⟨fun h=>h.1,fun h=>⟨h,trivial⟩⟩)]at this
theorem scanI {R:Type} (n:Nat) (L:Int→R) (P:Int→Prop) (bad go:R)
  (hs:∀i:Int,0≤i→i < n→(∀j:Int,0≤j→j < i→P j)→(P i→L i=L (i+1))∧(¬ P i→L i=bad)) (he:(∀j:Int,0≤j→j < n→P j)→L n=go) :
  ((∀j:Int,0≤j→j < n→P j)→L 0=go)∧(¬ (∀j:Int,0≤j→j < n→P j)→L 0=bad):=by
 rcases scan n L P bad hs with ⟨h1,h2⟩|⟨j,h0,h1,_,h2,_,h3⟩
 ·
  exact⟨fun _=>h2.trans (he h1),fun h=>absurd h1 h⟩
 ·
  exact⟨fun h=>absurd (h j h0 h1) h2,fun _=>h3⟩
theorem up {R:Type} (n:Nat) (L:Nat→R) (h:∀i,i < n→L i=L (i+1)):L 0=L n:=by
 suffices H:∀m,m≤n→L 0=L m from H n (Nat.le_refl _)
 intro m
 induction m with
 | zero=>exact fun _=>rfl
 | succ m ih=>exact fun hm=>(ih (by omega)).trans (h m (by omega))
theorem ZlX (xs:List Int) (j:Nat):rd xs (j:Int)=xs.getD j 0:=by simp[rd]
theorem Zb3 {xs:List Int} {j:Nat} (h:j < xs.length):rd xs (j:Int)=xs[j]:=by simp[rd,List.getD_eq_getElem?_getD,List.getElem?_eq_getElem h]
theorem rd_at {xs:List Int} {i:Int} (h0:0≤i) (h1:i < xs.length):xs[i.toNat]? = some (rd xs i):=by
 have h:i.toNat < xs.length:=by omega
 simp[rd,List.getD_eq_getElem?_getD,List.getElem?_eq_getElem h]
theorem ZcM {xs:List Int} {i:Int} (h0:0≤i) (h1:i < xs.length):rd xs i∈xs:=List.mem_of_getElem? (rd_at h0 h1)
theorem Zji {xs ys:List Int} (hl:xs.length=ys.length) (h:∀i:Int,0≤i→i < xs.length→rd xs i=rd ys i):xs=ys:=by
 apply List.ext_getElem hl
 intro i h1 h2
 have:=h i (by omega) (by omega)
 simpa [rd,List.getD_eq_getElem?_getD,List.getElem?_eq_getElem h1,List.getElem?_eq_getElem h2] using this
theorem ZdG {g:List (List Int)} {j:Nat} (h:j < g.length):row g (j:Int)=g[j]:=by simp[row,List.getD_eq_getElem?_getD,List.getElem?_eq_getElem h]
theorem Zgy {g:List (List Int)} {a:Int} (h0:0≤a) (h1:a < g.length):row g a∈g:=by
 have h:a.toNat < g.length:=by omega
 unfold row
 rw[List.getD_eq_getElem?_getD,List.getElem?_eq_getElem h]
 exact List.getElem_mem h
theorem ZjC {g:List (List Int)} {r:List Int} (h:r∈g):∃i:Int,0≤i∧i < g.length∧row g i=r:=by
 obtain⟨i,hi,rfl⟩:=List.mem_iff_getElem.1 h
 exact⟨i,by omega,by omega,ZdG hi⟩
def AllIn (n:Int) (xs:List Int):Prop:=∀i:Int,0≤i→i < xs.length→0≤rd xs i∧rd xs i < n
theorem ZgM {n x:Int} (h0:0≤x) (h1:x < n):AllIn n [x]:=by
 intro i i0 i1
 have:i=0:=by simp at i1;omega
 subst this;simp[rd, *]
theorem ZcE {n x y:Int} (h0:0≤x) (h1:x < n) (h2:0≤y) (h3:y < n):AllIn n [x,y]:=by
 intro i i0 i1
 have:i=0∨i=1:=by simp at i1;omega
 rcases this with rfl|rfl <;> simp[rd, *]
theorem Zhp {n x y z:Int} (h0:0≤x) (h1:x < n) (h2:0≤y) (h3:y < n) (h4:0≤z) (h5:z < n):AllIn n [x,y,z]:=by
 intro i i0 i1
 have:i=0∨i=1∨i=2:=by simp at i1;omega
 rcases this with rfl|rfl|rfl <;> simp[rd, *]
theorem AllIn.mem {n:Int} {xs:List Int} (h:AllIn n xs) {x:Int} (hx:x∈xs):0≤x∧x < n:=by
 obtain⟨i,hi,rfl⟩:=List.mem_iff_getElem.1 hx
 have:=h i (by omega) (by omega)
 rwa[Zb3 hi]at this
theorem ZbX {n:Int} {xs:List Int} (h:∀x∈xs,0≤x∧x < n):AllIn n xs:=fun i i0 i1=>h _ (ZcM i0 i1)
theorem AllIn.drop {n:Int} {xs:List Int} (h:AllIn n xs) (j:Nat):AllIn n (xs.drop j):=ZbX fun x hx=>h.mem (List.mem_of_mem_drop hx)
theorem AllIn.take {n:Int} {xs:List Int} (h:AllIn n xs) (j:Nat):AllIn n (xs.take j):=ZbX fun x hx=>h.mem (List.mem_of_mem_take hx)
theorem AllIn.append {n:Int} {xs ys:List Int} (h:AllIn n xs) (k:AllIn n ys):AllIn n (xs++ys):=ZbX fun x hx=>by
 rcases List.mem_append.1 hx with h' | h'
 ·
  exact h.mem h'
 ·
  exact k.mem h'
theorem ZbW {a m:Int} (h:0≤a):Int.tmod a m=a%m:=Int.tmod_eq_emod_of_nonneg h
theorem ZeE {a m:Int} (h:0≤a):Int.tdiv a m=a / m:=Int.tdiv_eq_ediv_of_nonneg h
end Go.Proofs.YthmcpmnhdbeahaaGreat.V
set_option maxHeartbeats 2000000
set_option maxRecDepth 20000
namespace Go.Proofs.YthmcpmnhdbeahaaGreat.V
open Go.RowKit Go.Proofs.YthmcpmnhdbeahaaGreat.D Go.Proofs.YthmcpmnhdbeahaaGreat.P
theorem areIn (n:Int) (xs:List Int) (hl:xs.length≤maxLen):ZaZ.f n xs=some (B (AllIn n xs)):=by
 have hm:=ZcI
 rw[ZaZ.f_eq]
 refine scanT xs.length (fun i=>ZaZ.l0 n xs (xs.length:Int) i) (fun i=>0≤rd xs i∧rd xs i < n) (fun i h0 h1 _ => ?_) (fun _ => ?_)
 ·
  refine⟨fun h => ?_,fun h => ?_⟩ <;> (rw[ZaZ.l0_eq])
  ·
   ((with_reducible repeat (first|refine Zj (by first|assumption|omega|rfl|exact B_pos (by omega)) ?_|refine Zi (by first|assumption|omega|decide|exact B_not (by omega)) ?_|refine Za (by first|assumption) ?_|dsimp only));first|done|(with_reducible rfl)|simp (disch:=omega) only[w64]|(show False;done))
  ·
   by_cases h2:rd xs i < 0 <;> ((with_reducible repeat (first|refine Zj (by first|assumption|omega|rfl|exact B_pos (by omega)) ?_|refine Zi (by first|assumption|omega|decide|exact B_not (by omega)) ?_|refine Za (by first|assumption) ?_|dsimp only));first|done|(with_reducible rfl)|simp (disch:=omega) only[w64]|(show False;done))
 ·
  (rw[ZaZ.l0_eq])
  ((with_reducible repeat (first|refine Zj (by first|assumption|omega|rfl|exact B_pos (by omega)) ?_|refine Zi (by first|assumption|omega|decide|exact B_not (by omega)) ?_|refine Za (by first|assumption) ?_|dsimp only));first|done|(with_reducible rfl)|simp (disch:=omega) only[w64]|(show False;done))
theorem index_ (xs:List Int) (x:Int) (hl:xs.length≤maxLen) :
  ((∀i:Int,0≤i→i < xs.length→rd xs i≠x)∧ZB.f xs x=some (-1)) ∨
  ∃i:Int,0≤i∧i < xs.length∧(∀j:Int,0≤j→j < i→rd xs j≠x)∧rd xs i=x∧ZB.f xs x=some i:=by
 have hm:=ZcI
 rw[ZB.f_eq]
 suffices H:∀d m:Nat,m+d=xs.length→(∀j:Int,0≤j→j < m→rd xs j≠x) →
   ((∀i:Int,0≤i→i < xs.length→rd xs i≠x)∧ZB.l0 xs x (xs.length:Int) m=some (-1)) ∨
   ∃i:Int,0≤i∧i < xs.length∧(∀j:Int,0≤j→j < i→rd xs j≠x)∧rd xs i=x∧ZB.l0 xs x (xs.length:Int) m=some i from
  H xs.length 0 (by omega) (fun j h0 h1=>by omega)
 intro d
 induction d with
 | zero =>
  intro m hd hp
  obtain rfl:m=xs.length:=by omega
  refine .inl ⟨hp,?_⟩
  (rw[ZB.l0_eq])
  ((with_reducible repeat (first|refine Zj (by first|assumption|omega|rfl|exact B_pos (by omega)) ?_|refine Zi (by first|assumption|omega|decide|exact B_not (by omega)) ?_|refine Za (by first|assumption) ?_|dsimp only));first|done|(with_reducible rfl)|simp (disch:=omega) only[w64]|(show False;done))
 | succ d ih =>
  intro m hd hp
  by_cases h2:x=rd xs m
  ·
   refine .inr ⟨m,by omega,by omega,hp,h2.symm,?_⟩
   (rw[ZB.l0_eq])
   ((with_reducible repeat (first|refine Zj (by first|assumption|omega|rfl|exact B_pos (by omega)) ?_|refine Zi (by first|assumption|omega|decide|exact B_not (by omega)) ?_|refine Za (by first|assumption) ?_|dsimp only));first|done|(with_reducible rfl)|simp (disch:=omega) only[w64]|(show False;done))
  ·
   have st:ZB.l0 xs x (xs.length:Int) m=ZB.l0 xs x (xs.length:Int) ((m+1:Nat):Int):=by
    rw[Int.natCast_add,Int.natCast_one]
    (rw[ZB.l0_eq])
    ((with_reducible repeat (first|refine Zj (by first|assumption|omega|rfl|exact B_pos (by omega)) ?_|refine Zi (by first|assumption|omega|decide|exact B_not (by omega)) ?_|refine Za (by first|assumption) ?_|dsimp only));first|done|(with_reducible rfl)|simp (disch:=omega) only[w64]|(show False;done))
   rw[st]
   refine ih (m+1) (by omega) fun j k0 k1 => ?_
   by_cases e:j=m
   ·
    rw[e];exact fun h=>h2 h.symm
   ·
    exact hp j k0 (by omega)
theorem Zi8 (xs:List Int) (x:Int) (hl:xs.length≤maxLen):ZW.f xs x=some (B (∃i:Int,0≤i∧i < xs.length∧rd xs i=x)):=by
 rw[ZW.f_eq]
 rcases index_ xs x hl with ⟨h,e⟩|⟨i,h0,h1,_,h2,e⟩
 ·
  rw[e,B_neg fun⟨i,h0,h1,h2⟩=>h i h0 h1 h2];rfl
 ·
  rw[e,B_pos ⟨i,h0,h1,h2⟩];simp[h0]
structure Grp (g:List (List Int)):Prop where
 n1:1≤g.length
 n8:g.length≤8
 row:∀a:Int,0≤a→a < g.length→(row g a).length=g.length
 ent:∀a b:Int,0≤a→a < g.length→0≤b→b < g.length→0≤T g a b∧T g a b < g.length
 one:∀a:Int,0≤a→a < g.length→T g 0 a=a
 one' : ∀a:Int,0≤a→a < g.length→T g a 0=a
 assoc:∀a b c:Int,0≤a→a < g.length→0≤b→b < g.length→0≤c→c < g.length→T g (T g a b) c=T g a (T g b c)
 inv:∀a:Int,0≤a→a < g.length→∃b:Int,0≤b∧b < g.length∧T g a b=0
theorem Grp.inv2 {g:List (List Int)} (h:Grp g) {a:Int} (h0:0≤a) (h1:a < g.length):∃b:Int,0≤b∧b < g.length∧T g a b=0∧T g b a=0:=by
 obtain⟨b,b0,b1,hb⟩:=h.inv a h0 h1
 obtain⟨c,c0,c1,hc⟩:=h.inv b b0 b1
 refine⟨b,b0,b1,hb,?_⟩
 have hac:c=a:=by
  have e1:=h.assoc a b c h0 h1 b0 b1 c0 c1
  rw[hb,hc,h.one c c0 c1,h.one' a h0 h1]at e1
  exact e1
 rw[←hac];exact hc
theorem Zik {g:List (List Int)} (hr:∀r∈g,r.length≤maxLen) {a:Int} (h0:0≤a) (h1:a < g.length):(row g a).length≤maxLen:=hr _ (Zgy h0 h1)
def Tab (g:List (List Int)):Prop:=∀a:Int,0≤a→a < g.length→(row g a).length=g.length∧AllIn g.length (row g a)
def Law (g:List (List Int)) (a:Int):Prop:=T g 0 a=a∧T g a 0=a∧(∃b:Int,0≤b∧b < g.length∧T g a b=0)∧∀b:Int,0≤b→b < g.length→∀c:Int,0≤c→c < g.length→T g (T g a b) c=T g a (T g b c)
theorem Zhy (g:List (List Int)):Grp g↔(1≤g.length∧g.length≤8)∧Tab g∧∀a:Int,0≤a→a < g.length→Law g a:=by
 constructor
 ·
  intro h
  refine⟨⟨h.n1,h.n8⟩,fun a h0 h1=>⟨h.row a h0 h1,fun i i0 i1 => ?_⟩,fun a h0 h1=>⟨h.one a h0 h1,h.one' a h0 h1,h.inv a h0 h1,fun b b0 b1 c c0 c1=>h.assoc a b c h0 h1 b0 b1 c0 c1⟩⟩
  have:=h.row a h0 h1
  exact h.ent a i h0 h1 i0 (by omega)
 ·
  rintro⟨⟨h1,h8⟩,ht,hl⟩
  refine⟨h1,h8,fun a a0 a1=>(ht a a0 a1).1,fun a b a0 a1 b0 b1 => ?_,fun a a0 a1=>(hl a a0 a1).1,fun a a0 a1=>(hl a a0 a1).2.1,fun a b c a0 a1 b0 b1 c0 c1=>(hl a a0 a1).2.2.2 b b0 b1 c c0 c1,fun a a0 a1=>(hl a a0 a1).2.2.1⟩
  have:=(ht a a0 a1).1
  exact(ht a a0 a1).2 b b0 (by omega)
theorem Zll (g:List (List Int)) (hl:g.length≤maxLen) (hr:∀r∈g,r.length≤maxLen):Zt.f g=some (B (Grp g)):=by
 have hm:=ZcI
 rw[ZbT (Zhy g)]
 (rw[Zt.f_eq])
 by_cases c1:(g.length:Int) < 1∨(g.length:Int) > 8
 ·
  rw[B_neg fun h=>by omega]
  by_cases c2:(g.length:Int) < 1 <;> ((with_reducible repeat (first|refine Zj (by first|assumption|omega|rfl|exact B_pos (by omega)) ?_|refine Zi (by first|assumption|omega|decide|exact B_not (by omega)) ?_|refine Za (by first|assumption|exact ZS.f_eq _) ?_|dsimp only));first|done|(with_reducible rfl)|simp (disch:=omega) only[w64]|(show False;done))
 rw[ZbT (show((1≤g.length∧g.length≤8)∧Tab g∧∀a:Int,0≤a→a < g.length→Law g a)↔(Tab g∧∀a:Int,0≤a→a < g.length→Law g a)from⟨fun h=>h.2,fun h=>⟨by omega,h⟩⟩)]
 (with_reducible repeat (first|refine Zj (by first|assumption|omega|rfl|exact B_pos (by omega)) ?_|refine Zi (by first|assumption|omega|decide|exact B_not (by omega)) ?_|refine Za (by first|assumption|exact ZS.f_eq _) ?_|dsimp only))
 refine scanB g.length (fun i=>Zt.l0 (g.length:Int) g (g.length:Int) i g) (fun a=>(row g a).length=g.length∧AllIn g.length (row g a)) _ (fun i h0 h1 _ => ?_) (fun ht => ?_)
 ·
  have ha:=areIn g.length (row g i) (Zik hr h0 h1)
  refine⟨fun h => ?_,fun h => ?_⟩ <;> (rw[Zt.l0_eq])
  ·
   have h1:=h.1
   rw[B_pos h.2]at ha
   ((with_reducible repeat (first|refine Zj (by first|assumption|omega|rfl|exact B_pos (by omega)) ?_|refine Zi (by first|assumption|omega|decide|exact B_not (by omega)) ?_|refine Za (by first|assumption) ?_|dsimp only));first|done|(with_reducible rfl)|simp (disch:=omega) only[w64]|(show False;done))
  ·
   by_cases h2:((row g i).length:Int)=g.length
   ·
    rw[B_neg fun h3=>h ⟨by omega,h3⟩]at ha
    ((with_reducible repeat (first|refine Zj (by first|assumption|omega|rfl|exact B_pos (by omega)) ?_|refine Zi (by first|assumption|omega|decide|exact B_not (by omega)) ?_|refine Za (by first|assumption) ?_|dsimp only));first|done|(with_reducible rfl)|simp (disch:=omega) only[w64]|(show False;done))
   ·
    ((with_reducible repeat (first|refine Zj (by first|assumption|omega|rfl|exact B_pos (by omega)) ?_|refine Zi (by first|assumption|omega|decide|exact B_not (by omega)) ?_|refine Za (by first|assumption) ?_|dsimp only));first|done|(with_reducible rfl)|simp (disch:=omega) only[w64]|(show False;done))
 (rw[Zt.l0_eq])
 (with_reducible repeat (first|refine Zj (by first|assumption|omega|rfl|exact B_pos (by omega)) ?_|refine Zi (by first|assumption|omega|decide|exact B_not (by omega)) ?_|refine Za (by first|assumption) ?_|dsimp only))
 refine scanT g.length (fun i=>Zt.l1 (g.length:Int) (g.length:Int) i g) (Law g) (fun a a0 a1 _ => ?_) (fun _ => ?_)
 rotate_left
 ·
  (rw[Zt.l1_eq])
  ((with_reducible repeat (first|refine Zj (by first|assumption|omega|rfl|exact B_pos (by omega)) ?_|refine Zi (by first|assumption|omega|decide|exact B_not (by omega)) ?_|refine Za (by first|assumption) ?_|dsimp only));first|done|(with_reducible rfl)|simp (disch:=omega) only[w64]|(show False;done))
 have hlen:∀x:Int,0≤x→x < g.length→((row g x).length:Int)=g.length:=fun x x0 x1=>by rw[(ht x x0 x1).1]
 have hent:∀x y:Int,0≤x→x < g.length→0≤y→y < g.length→0≤T g x y∧T g x y < g.length:=fun x y x0 x1 y0 y1=>(ht x x0 x1).2 y y0 (by rw[hlen x x0 x1];exact y1)
 have l0:=hlen 0 (by omega) (by omega)
 have la:=hlen a a0 a1
 have hc:=Zi8 (row g a) 0 (Zik hr a0 a1)
 rw[ZbT (show(∃i:Int,0≤i∧i < (row g a).length∧rd (row g a) i=0)↔∃b:Int,0≤b∧b < g.length∧T g a b=0 by rw[la];exact Iff.rfl)]at hc
 by_cases h2:T g 0 a=a
 rotate_left
 ·
  refine⟨fun h=>absurd h.1 h2,fun _ => ?_⟩
  (rw[Zt.l1_eq])
  ((with_reducible repeat (first|refine Zj (by first|assumption|omega|rfl|exact B_pos (by omega)) ?_|refine Zi (by first|assumption|omega|decide|exact B_not (by omega)) ?_|refine Za (by first|assumption) ?_|dsimp only));first|done|(with_reducible rfl)|simp (disch:=omega) only[w64]|(show False;done))
 by_cases h3:T g a 0=a
 rotate_left
 ·
  refine⟨fun h=>absurd h.2.1 h3,fun _ => ?_⟩
  (rw[Zt.l1_eq])
  ((with_reducible repeat (first|refine Zj (by first|assumption|omega|rfl|exact B_pos (by omega)) ?_|refine Zi (by first|assumption|omega|decide|exact B_not (by omega)) ?_|refine Za (by first|assumption) ?_|dsimp only));first|done|(with_reducible rfl)|simp (disch:=omega) only[w64]|(show False;done))
 by_cases h4:∃b:Int,0≤b∧b < g.length∧T g a b=0
 rotate_left
 ·
  refine⟨fun h=>absurd h.2.2.1 h4,fun _ => ?_⟩
  rw[B_neg h4]at hc
  (rw[Zt.l1_eq])
  ((with_reducible repeat (first|refine Zj (by first|assumption|omega|rfl|exact B_pos (by omega)) ?_|refine Zi (by first|assumption|omega|decide|exact B_not (by omega)) ?_|refine Za (by first|assumption) ?_|dsimp only));first|done|(with_reducible rfl)|simp (disch:=omega) only[w64]|(show False;done))
 rw[B_pos h4]at hc
 have inner:=scanI g.length (fun b=>Zt.l2 (g.length:Int) a (g.length:Int) a (g.length:Int) b g) (fun b=>∀c:Int,0≤c→c < g.length→T g (T g a b) c=T g a (T g b c)) (some false) (Zt.l1 (g.length:Int) (g.length:Int) (a+1) g)
  (fun b b0 b1 _=>by
   obtain⟨e0,e1⟩:=hent a b a0 a1 b0 b1
   have le:=hlen _ e0 e1
   have lb:=hlen b b0 b1
   have:=scanI g.length (fun c=>Zt.l3 (g.length:Int) a b (g.length:Int) a (g.length:Int) b (g.length:Int) c g) (fun c=>T g (T g a b) c=T g a (T g b c)) (some false) (Zt.l2 (g.length:Int) a (g.length:Int) a (g.length:Int) (b+1) g)
    (fun c c0 c1 _=>by
     obtain⟨f0,f1⟩:=hent b c b0 b1 c0 c1
     refine⟨fun h => ?_,fun h => ?_⟩ <;> (rw[Zt.l3_eq]) <;> ((with_reducible repeat (first|refine Zj (by first|assumption|omega|rfl|exact B_pos (by omega)) ?_|refine Zi (by first|assumption|omega|decide|exact B_not (by omega)) ?_|refine Za (by first|assumption) ?_|dsimp only));first|done|(with_reducible rfl)|simp (disch:=omega) only[w64]|(show False;done))) (fun _=>by(rw[Zt.l3_eq]);((with_reducible repeat (first|refine Zj (by first|assumption|omega|rfl|exact B_pos (by omega)) ?_|refine Zi (by first|assumption|omega|decide|exact B_not (by omega)) ?_|refine Za (by first|assumption) ?_|dsimp only));first|done|(with_reducible rfl)|simp (disch:=omega) only[w64]|(show False;done)))
   refine⟨fun h => ?_,fun h => ?_⟩ <;> (rw[Zt.l2_eq])
   ·
    (with_reducible repeat (first|refine Zj (by first|assumption|omega|rfl|exact B_pos (by omega)) ?_|refine Zi (by first|assumption|omega|decide|exact B_not (by omega)) ?_|refine Za (by first|assumption) ?_|dsimp only))
    exact this.1 h
   ·
    (with_reducible repeat (first|refine Zj (by first|assumption|omega|rfl|exact B_pos (by omega)) ?_|refine Zi (by first|assumption|omega|decide|exact B_not (by omega)) ?_|refine Za (by first|assumption) ?_|dsimp only))
    exact this.2 h) (fun _=>by(rw[Zt.l2_eq]);((with_reducible repeat (first|refine Zj (by first|assumption|omega|rfl|exact B_pos (by omega)) ?_|refine Zi (by first|assumption|omega|decide|exact B_not (by omega)) ?_|refine Za (by first|assumption) ?_|dsimp only));first|done|(with_reducible rfl)|simp (disch:=omega) only[w64]|(show False;done)))
 refine⟨fun h => ?_,fun h => ?_⟩ <;> (rw[Zt.l1_eq]) <;> (with_reducible repeat (first|refine Zj (by first|assumption|omega|rfl|exact B_pos (by omega)) ?_|refine Zi (by first|assumption|omega|decide|exact B_not (by omega)) ?_|refine Za (by first|assumption) ?_|dsimp only))
 ·
  exact inner.1 h.2.2.2
 ·
  exact inner.2 fun k=>h ⟨h2,h3,h4,k⟩
end Go.Proofs.YthmcpmnhdbeahaaGreat.V
namespace Go.Proofs.YthmcpmnhdbeahaaGreat.V
open Go.RowKit Go.Proofs.YthmcpmnhdbeahaaGreat.D Go.Proofs.YthmcpmnhdbeahaaGreat.P
theorem In_ (x lo hi:Int):Zbe.f x lo hi=some (B (lo≤x∧x≤hi)):=by
 rw[Zbe.f_eq]
 by_cases h:x≥lo
 ·
  rw[if_pos h,ZeW,ZbT (show x≤hi↔(lo≤x∧x≤hi)from⟨fun h' => ⟨h,h'⟩,fun h' => h'.2⟩)]
 ·
  rw[if_neg h,B_neg (fun h' => h h'.1)]
def LawS (g:List (List Int)) (a:Int):Prop:=T g 0 a=a∧T g a 0=a∧(∀b:Int,0≤b→b < g.length→∀c:Int,0≤c→c < g.length→T g (T g a b) c=T g a (T g b c))∧∃b:Int,0≤b∧b < g.length∧T g a b=0∧T g b a=0
theorem Zko (g:List (List Int)):Grp g↔(1≤g.length∧g.length≤8)∧Tab g∧∀a:Int,0≤a→a < g.length→LawS g a:=by
 rw[Zhy]
 constructor
 ·
  intro h
  have hg:=(Zhy g).2 h
  refine⟨h.1,h.2.1,fun a a0 a1 => ?_⟩
  obtain⟨h1,h2,_,h4⟩:=h.2.2 a a0 a1
  exact⟨h1,h2,h4,hg.inv2 a0 a1⟩
 ·
  rintro⟨h1,h2,h3⟩
  refine⟨h1,h2,fun a a0 a1 => ?_⟩
  obtain⟨k1,k2,k3,b,b0,b1,hb,_⟩:=h3 a a0 a1
  exact⟨k1,k2,⟨b,b0,b1,hb⟩,k3⟩
theorem Is_ (g:List (List Int)):Zs.f g=some (B (Grp g)):=by
 rw[ZbT (Zko g)]
 (rw[Zs.f_eq])
 by_cases c1:1≤(g.length:Int)∧(g.length:Int)≤8
 rotate_left
 ·
  rw[B_neg fun h=>c1 (by omega)]
  ((with_reducible repeat (first|refine Zj (by first|assumption|omega|rfl|exact B_pos (by omega)) ?_|refine Zi (by first|assumption|omega|decide|exact B_not (by omega)) ?_|refine Za (by first|assumption|exact In_ _ _ _) ?_|dsimp only));first|done|(with_reducible rfl)|simp (disch:=omega) only[w64]|(show False;done))
 rw[ZbT (show((1≤g.length∧g.length≤8)∧Tab g∧∀a:Int,0≤a→a < g.length→LawS g a)↔(Tab g∧∀a:Int,0≤a→a < g.length→LawS g a)from⟨fun h=>h.2,fun h=>⟨by omega,h⟩⟩)]
 (with_reducible repeat (first|refine Zj (by first|assumption|omega|rfl|exact B_pos (by omega)) ?_|refine Zi (by first|assumption|omega|decide|exact B_not (by omega)) ?_|refine Za (by first|assumption|exact In_ _ _ _) ?_|dsimp only))
 have hw1:wrapI ((g.length:Int) - 1)=g.length - 1:=w64 (by omega) (by omega)
 refine scanB g.length (fun i=>Zs.l0 (g.length:Int) i g) (fun a=>(row g a).length=g.length∧AllIn g.length (row g a)) (∀a:Int,0≤a→a < g.length→LawS g a) (fun a a0 a1 _ => ?_) (fun ht => ?_)
 ·
  by_cases h2:((row g a).length:Int)=g.length
  rotate_left
  ·
   refine⟨fun h=>absurd h.1 (by omega),fun _ => ?_⟩
   (rw[Zs.l0_eq])
   ((with_reducible repeat (first|refine Zj (by first|assumption|omega|rfl|exact B_pos (by omega)) ?_|refine Zi (by first|assumption|omega|decide|exact B_not (by omega)) ?_|refine Za (by first|assumption) ?_|dsimp only));first|done|(with_reducible rfl)|simp (disch:=omega) only[w64]|(show False;done))
  have inner:=scanI g.length (fun b=>Zs.l1 (g.length:Int) a b g) (fun b=>0≤T g a b∧T g a b < g.length) (some false) (Zs.l0 (g.length:Int) (a+1) g)
   (fun b b0 b1 _=>by refine⟨fun h => ?_,fun h => ?_⟩ <;> (rw[Zs.l1_eq,hw1]) <;> ((with_reducible repeat (first|refine Zj (by first|assumption|omega|rfl|exact B_pos (by omega)) ?_|refine Zi (by first|assumption|omega|decide|exact B_not (by omega)) ?_|refine Za (by first|assumption|exact In_ _ _ _) ?_|dsimp only));first|done|(with_reducible rfl)|simp (disch:=omega) only[w64]|(show False;done))) (fun _=>by(rw[Zs.l1_eq]);((with_reducible repeat (first|refine Zj (by first|assumption|omega|rfl|exact B_pos (by omega)) ?_|refine Zi (by first|assumption|omega|decide|exact B_not (by omega)) ?_|refine Za (by first|assumption) ?_|dsimp only));first|done|(with_reducible rfl)|simp (disch:=omega) only[w64]|(show False;done)))
  refine⟨fun h => ?_,fun h => ?_⟩ <;> (rw[Zs.l0_eq]) <;> (with_reducible repeat (first|refine Zj (by first|assumption|omega|rfl|exact B_pos (by omega)) ?_|refine Zi (by first|assumption|omega|decide|exact B_not (by omega)) ?_|refine Za (by first|assumption) ?_|dsimp only))
  ·
   exact inner.1 fun j j0 j1=>h.2 j j0 (by omega)
  ·
   exact inner.2 fun k=>h ⟨by omega,fun j j0 j1=>k j j0 (by omega)⟩
 (rw[Zs.l0_eq])
 (with_reducible repeat (first|refine Zj (by first|assumption|omega|rfl|exact B_pos (by omega)) ?_|refine Zi (by first|assumption|omega|decide|exact B_not (by omega)) ?_|refine Za (by first|assumption) ?_|dsimp only))
 refine scanT g.length (fun i=>Zs.l2 (g.length:Int) i g) (LawS g) (fun a a0 a1 _ => ?_) (fun _=>by(rw[Zs.l2_eq]);((with_reducible repeat (first|refine Zj (by first|assumption|omega|rfl|exact B_pos (by omega)) ?_|refine Zi (by first|assumption|omega|decide|exact B_not (by omega)) ?_|refine Za (by first|assumption) ?_|dsimp only));first|done|(with_reducible rfl)|simp (disch:=omega) only[w64]|(show False;done)))
 have hlen:∀x:Int,0≤x→x < g.length→((row g x).length:Int)=g.length:=fun x x0 x1=>by rw[(ht x x0 x1).1]
 have hent:∀x y:Int,0≤x→x < g.length→0≤y→y < g.length→0≤T g x y∧T g x y < g.length:=fun x y x0 x1 y0 y1=>(ht x x0 x1).2 y y0 (by rw[hlen x x0 x1];exact y1)
 have l0:=hlen 0 (by omega) (by omega)
 have la:=hlen a a0 a1
 by_cases h2:T g 0 a=a
 rotate_left
 ·
  refine⟨fun h=>absurd h.1 h2,fun _ => ?_⟩
  (rw[Zs.l2_eq])
  ((with_reducible repeat (first|refine Zj (by first|assumption|omega|rfl|exact B_pos (by omega)) ?_|refine Zi (by first|assumption|omega|decide|exact B_not (by omega)) ?_|refine Za (by first|assumption) ?_|dsimp only));first|done|(with_reducible rfl)|simp (disch:=omega) only[w64]|(show False;done))
 by_cases h3:T g a 0=a
 rotate_left
 ·
  refine⟨fun h=>absurd h.2.1 h3,fun _ => ?_⟩
  (rw[Zs.l2_eq])
  ((with_reducible repeat (first|refine Zj (by first|assumption|omega|rfl|exact B_pos (by omega)) ?_|refine Zi (by first|assumption|omega|decide|exact B_not (by omega)) ?_|refine Za (by first|assumption) ?_|dsimp only));first|done|(with_reducible rfl)|simp (disch:=omega) only[w64]|(show False;done))
 let Fd:Int→Prop:=fun b=>∃j:Int,0≤j∧j < b∧T g a j=0∧T g j a=0
 have fd0:B (Fd 0)=false:=B_neg fun⟨j,j0,j1,_⟩=>by omega
 have inner:=scan g.length (fun b=>Zs.l3 (g.length:Int) a (B (Fd b)) b g) (fun b=>∀c:Int,0≤c→c < g.length→T g (T g a b) c=T g a (T g b c)) (some false) (fun b b0 b1 _=>by
  obtain⟨e0,e1⟩:=hent a b a0 a1 b0 b1
  have le:=hlen _ e0 e1
  have lb:=hlen b b0 b1
  have toj:Zs.l3 (g.length:Int) a (B (Fd b)) b g=Zs.l4 (g.length:Int) a (B (Fd (b+1))) b 0 g:=by
   by_cases k1:Fd b
   ·
    rw[B_pos k1,B_pos (show Fd (b+1)from by obtain⟨j,j0,j1,h⟩:=k1;exact⟨j,j0,by omega,h⟩)]
    (rw[Zs.l3_eq])
    ((with_reducible repeat (first|refine Zj (by first|assumption|omega|rfl|exact B_pos (by omega)) ?_|refine Zi (by first|assumption|omega|decide|exact B_not (by omega)) ?_|refine Za (by first|assumption) ?_|dsimp only));first|done|(with_reducible rfl)|simp (disch:=omega) only[w64]|(show False;done))
   ·
    rw[B_neg k1]
    by_cases k2:T g a b=0
    ·
     have e:B (Fd (b+1))=decide (T g b a=0):=by
      by_cases k3:T g b a=0
      ·
       rw[B_pos ⟨b,b0,by omega,k2,k3⟩];simp[k3]
      ·
       rw[B_neg]
       ·
        simp[k3]
       ·
        rintro⟨j,j0,j1,ja,jb⟩
        by_cases ej:j=b
        ·
         subst ej;exact k3 jb
        ·
         exact k1 ⟨j,j0,by omega,ja,jb⟩
     rw[e]
     (rw[Zs.l3_eq])
     ((with_reducible repeat (first|refine Zj (by first|assumption|omega|rfl|exact B_pos (by omega)) ?_|refine Zi (by first|assumption|omega|decide|exact B_not (by omega)) ?_|refine Za (by first|assumption) ?_|dsimp only));first|done|(with_reducible rfl)|simp (disch:=omega) only[w64]|(show False;done))
    ·
     rw[B_neg (show ¬ Fd (b+1)from by
      rintro⟨j,j0,j1,ja,jb⟩
      by_cases ej:j=b
      ·
       subst ej;exact k2 ja
      ·
       exact k1 ⟨j,j0,by omega,ja,jb⟩)]
     (rw[Zs.l3_eq])
     ((with_reducible repeat (first|refine Zj (by first|assumption|omega|rfl|exact B_pos (by omega)) ?_|refine Zi (by first|assumption|omega|decide|exact B_not (by omega)) ?_|refine Za (by first|assumption) ?_|dsimp only));first|done|(with_reducible rfl)|simp (disch:=omega) only[w64]|(show False;done))
  have inner4:=scanI g.length (fun c=>Zs.l4 (g.length:Int) a (B (Fd (b+1))) b c g) (fun c=>T g (T g a b) c=T g a (T g b c)) (some false) (Zs.l3 (g.length:Int) a (B (Fd (b+1))) (b+1) g) (fun c c0 c1 _=>by
   obtain⟨f0,f1⟩:=hent b c b0 b1 c0 c1
   refine⟨fun h => ?_,fun h => ?_⟩ <;> (rw[Zs.l4_eq]) <;> ((with_reducible repeat (first|refine Zj (by first|assumption|omega|rfl|exact B_pos (by omega)) ?_|refine Zi (by first|assumption|omega|decide|exact B_not (by omega)) ?_|refine Za (by first|assumption) ?_|dsimp only));first|done|(with_reducible rfl)|simp (disch:=omega) only[w64]|(show False;done))) (fun _=>by(rw[Zs.l4_eq]);((with_reducible repeat (first|refine Zj (by first|assumption|omega|rfl|exact B_pos (by omega)) ?_|refine Zi (by first|assumption|omega|decide|exact B_not (by omega)) ?_|refine Za (by first|assumption) ?_|dsimp only));first|done|(with_reducible rfl)|simp (disch:=omega) only[w64]|(show False;done)))
  exact⟨fun h=>toj.trans (inner4.1 h),fun h=>toj.trans (inner4.2 h)⟩)
 have st:Zs.l2 (g.length:Int) a g=Zs.l3 (g.length:Int) a (B (Fd 0)) 0 g:=by
  rw[fd0]
  (rw[Zs.l2_eq])
  ((with_reducible repeat (first|refine Zj (by first|assumption|omega|rfl|exact B_pos (by omega)) ?_|refine Zi (by first|assumption|omega|decide|exact B_not (by omega)) ?_|refine Za (by first|assumption) ?_|dsimp only));first|done|(with_reducible rfl)|simp (disch:=omega) only[w64]|(show False;done))
 rw[st]
 rcases inner with ⟨h5,h6⟩|⟨b,b0,b1,_,h5,_,h6⟩
 ·
  simp only[h6]
  by_cases h7:Fd g.length
  ·
   refine⟨fun _ => ?_,fun h=>absurd ⟨h2,h3,h5,h7⟩ h⟩
   rw[B_pos h7]
   (rw[Zs.l3_eq])
   ((with_reducible repeat (first|refine Zj (by first|assumption|omega|rfl|exact B_pos (by omega)) ?_|refine Zi (by first|assumption|omega|decide|exact B_not (by omega)) ?_|refine Za (by first|assumption) ?_|dsimp only));first|done|(with_reducible rfl)|simp (disch:=omega) only[w64]|(show False;done))
  ·
   refine⟨fun h=>absurd h.2.2.2 h7,fun h => ?_⟩
   rw[B_neg h7]
   (rw[Zs.l3_eq])
   ((with_reducible repeat (first|refine Zj (by first|assumption|omega|rfl|exact B_pos (by omega)) ?_|refine Zi (by first|assumption|omega|decide|exact B_not (by omega)) ?_|refine Za (by first|assumption) ?_|dsimp only));first|done|(with_reducible rfl)|simp (disch:=omega) only[w64]|(show False;done))
 ·
  exact⟨fun h=>absurd (h.2.2.1 b b0 b1) h5,fun _=>h6⟩
theorem gcd0 (y:Nat):∀x:Nat,Zbs.l0 (x:Int) (y:Int)=some ((Nat.gcd x y:Nat):Int):=by
 induction y using Nat.strongRecOn with
 | _ y ih =>
  intro x
  (rw[Zbs.l0_eq])
  by_cases h:y=0
  ·
   subst h
   simp
  ·
   have e:Int.tmod (x:Int) (y:Int)=((x%y:Nat):Int):=by rw[Int.ofNat_tmod]
   have:=ih (x%y) (Nat.mod_lt _ (by omega)) y
   rw[show Nat.gcd y (x%y)=Nat.gcd x y by rw[Nat.gcd_comm x y,Nat.gcd_rec y x,Nat.gcd_comm]]at this
   rw[e]
   (with_reducible repeat (first|refine Zj (by first|assumption|omega|rfl|exact B_pos (by omega)) ?_|refine Zi (by first|assumption|omega|decide|exact B_not (by omega)) ?_|refine Za (by first|assumption) ?_|dsimp only))
   exact this
theorem gcd_ {a b:Int} (ha:0≤a) (hb:0≤b):Zbs.f a b=some ((Int.gcd a b:Nat):Int):=by
 obtain⟨x,rfl⟩:=Int.eq_ofNat_of_zero_le ha
 obtain⟨y,rfl⟩:=Int.eq_ofNat_of_zero_le hb
 have:=gcd0 y x
 rw[Zbs.f_eq]
 simpa [Int.gcd] using this
theorem Gcd0 (y:Nat):∀x:Nat,x≤9223372036854775807→y≤9223372036854775807→ZaI.l0 (x:Int) (y:Int)=some ((Nat.gcd x y:Nat):Int):=by
 induction y using Nat.strongRecOn with
 | _ y ih =>
  intro x hx hy
  (rw[ZaI.l0_eq])
  by_cases h:y=0
  ·
   subst h
   have hw:wrapI (0 - (x:Int)) = -(x:Int):=by rw[w64 (by omega) (by omega)];omega
   rw[hw,if_pos (by simp),if_neg (by omega)]
   simp
  ·
   have e:Int.tmod (x:Int) (y:Int)=((x%y:Nat):Int):=by rw[Int.ofNat_tmod]
   have hlt:=Nat.mod_lt x (show y > 0 by omega)
   have:=ih (x%y) hlt y hy (by omega)
   rw[show Nat.gcd y (x%y)=Nat.gcd x y by rw[Nat.gcd_comm x y,Nat.gcd_rec y x,Nat.gcd_comm]]at this
   rw[e]
   (with_reducible repeat (first|refine Zj (by first|assumption|omega|rfl|exact B_pos (by omega)) ?_|refine Zi (by first|assumption|omega|decide|exact B_not (by omega)) ?_|refine Za (by first|assumption) ?_|dsimp only))
   exact this
theorem Gcd_ {a b:Int} (ha:0≤a) (hb:0≤b) (ha' : a≤9223372036854775807) (hb' : b≤9223372036854775807):ZaI.f a b=some ((Int.gcd a b:Nat):Int):=by
 obtain⟨x,rfl⟩:=Int.eq_ofNat_of_zero_le ha
 obtain⟨y,rfl⟩:=Int.eq_ofNat_of_zero_le hb
 have:=Gcd0 y x (by omega) (by omega)
 rw[ZaI.f_eq]
 simpa [Int.gcd] using this
theorem Grp.foldl_in {g:List (List Int)} (hg:Grp g):∀(xs:List Int) (x:Int),AllIn g.length xs→0≤x→x < g.length→0≤xs.foldl (T g) x∧xs.foldl (T g) x < g.length:=by
 intro xs
 induction xs with
 | nil=>exact fun x _ a b=>⟨a,b⟩
 | cons y ys ih =>
  intro x hx x0 x1
  obtain⟨y0,y1⟩:=hx.mem (List.mem_cons_self ..)
  obtain⟨z0,z1⟩:=hg.ent x y x0 x1 y0 y1
  exact ih _ (ZbX fun z hz=>hx.mem (List.mem_cons_of_mem _ hz)) z0 z1
theorem Zgg {xs:List Int} {m:Nat} (h:m < xs.length):xs.drop m=rd xs m :: xs.drop (m+1):=by
 rw[List.drop_eq_getElem_cons h,Zb3 h]
theorem Zcx {xs:List Int} {m:Nat} (h:m < xs.length):xs.take (m+1)=xs.take m++[rd xs m]:=by
 rw[List.take_succ_eq_append_getElem h,Zb3 h]
theorem times {g:List (List Int)} (hg:Grp g) (xs:List Int) (hx:AllIn g.length xs) (hl:xs.length≤maxLen):Zo.f g xs=some (xs.foldl (T g) 0):=by
 have hm:=ZcI
 have n1:=hg.n1
 rw[Zo.f_eq]
 have:=up xs.length (fun i=>Zo.l0 ((xs.take i).foldl (T g) 0) xs (xs.length:Int) (i:Int) g) (fun i hi=>by
  obtain⟨z0,z1⟩:=hg.foldl_in (xs.take i) 0 (hx.take i) (by omega) (by omega)
  obtain⟨y0,y1⟩:=hx i (by omega) (by omega)
  have hr:((row g ((xs.take i).foldl (T g) 0)).length:Int)=g.length:=by rw[hg.row _ z0 z1]
  have hw:wrapI ((i:Int)+1)=((i+1:Nat):Int):=by rw[w64 (by omega) (by omega)];omega
  rw[Zcx hi,List.foldl_append,List.foldl_cons,List.foldl_nil]
  (rw[Zo.l0_eq,hw])
  ((with_reducible repeat (first|refine Zj (by first|assumption|omega|rfl|exact B_pos (by omega)) ?_|refine Zi (by first|assumption|omega|decide|exact B_not (by omega)) ?_|refine Za (by first|assumption) ?_|dsimp only));first|done|(with_reducible rfl)|simp (disch:=omega) only[w64]|(show False;done)))
 simp only[List.take_zero,List.foldl_nil,List.take_length,Int.natCast_zero]at this
 rw[this]
 (rw[Zo.l0_eq])
 ((with_reducible repeat (first|refine Zj (by first|assumption|omega|rfl|exact B_pos (by omega)) ?_|refine Zi (by first|assumption|omega|decide|exact B_not (by omega)) ?_|refine Za (by first|assumption) ?_|dsimp only));first|done|(with_reducible rfl)|simp (disch:=omega) only[w64]|(show False;done))
theorem times2 {g:List (List Int)} (hg:Grp g) {x y:Int} (x0:0≤x) (x1:x < g.length) (y0:0≤y) (y1:y < g.length):Zo.f g [x,y]=some (T g x y):=by
 have:=times hg [x,y] (ZcE x0 x1 y0 y1) (by unfold maxLen;simp)
 simpa [hg.one x x0 x1] using this
end Go.Proofs.YthmcpmnhdbeahaaGreat.V
namespace Go.Proofs.YthmcpmnhdbeahaaGreat.V
open Go.RowKit Go.Proofs.YthmcpmnhdbeahaaGreat.D Go.Proofs.YthmcpmnhdbeahaaGreat.P
structure Mdl (g:List (List Int)) (m:Int) (u:List Int):Prop where
 m2:2≤m
 m12:m≤12
 len:u.length=g.length
 unit:∀i:Int,0≤i→i < u.length→1≤rd u i∧rd u i < m∧Int.gcd (rd u i) m=1
 hom:∀i:Int,0≤i→i < u.length→∀j:Int,0≤j→j < u.length→rd u (T g i j)=rd u i*rd u j%m
theorem ZkJ:∀m:Nat,m≤12→∀u:Nat,u < m→Nat.gcd u m=1→u=u*u%m→1≤u→u=1:=by decide
theorem Mdl.one {g:List (List Int)} {m:Int} {u:List Int} (hg:Grp g) (h:Mdl g m u):rd u 0=1:=by
 have n1:=hg.n1
 have hl:=h.len
 obtain⟨a1,a2,a3⟩:=h.unit 0 (by omega) (by omega)
 have e:=h.hom 0 (by omega) (by omega) 0 (by omega) (by omega)
 rw[hg.one 0 (by omega) (by omega)]at e
 have m2:=h.m2;have m12:=h.m12
 obtain⟨M,rfl⟩:=Int.eq_ofNat_of_zero_le (show 0≤m by omega)
 obtain⟨U,hU⟩:=Int.eq_ofNat_of_zero_le (show 0≤rd u 0 by omega)
 rw[hU]at a1 a2 a3 e ⊢
 have:=ZkJ M (by omega) U (by omega) (by simpa [Int.gcd] using a3) (by exact_mod_cast e) (by omega)
 omega
theorem Zcs {a b m:Int} (a0:0≤a) (a1:a < m) (b0:0≤b) (b1:b < m) (hm:m≤1000):0≤a*b∧a*b≤1000000:=by
 refine⟨Int.mul_nonneg a0 b0,?_⟩
 have h1:a*b≤1000*b:=Int.mul_le_mul_of_nonneg_right (by omega) b0
 omega
theorem Mdl.at {g:List (List Int)} {m:Int} {u:List Int} (h:Mdl g m u) {x:Int} (x0:0≤x) (x1:x < g.length):1≤rd u x∧rd u x < m:=by
 have hl:=h.len
 obtain⟨a,b,_⟩:=h.unit x x0 (by omega)
 exact⟨a,b⟩
theorem ZdM {m x:Int} {u:List Int} {g:List (List Int)} (hm:Mdl g m u) (x0:0≤x) (x1:x < g.length) {b:Int} (b0:0≤b) (b1:b < m):0≤rd u x*b∧rd u x*b≤1000000:=by
 have m12:=hm.m12
 have:=hm.at x0 x1
 exact Zcs (by omega) this.2 b0 b1 (by omega)
theorem ZlQ {m x:Int} (m0:0≤m):Zbp.f m x=some (B (1≤x∧x < m∧Int.gcd x m=1)):=by
 rw[Zbp.f_eq]
 by_cases h1:1≤x∧x < m
 ·
  have h:=gcd_ m0 (show 0≤x by omega)
  (with_reducible repeat (first|refine Zj (by first|assumption|omega|rfl|exact B_pos (by omega)) ?_|refine Zi (by first|assumption|omega|decide|exact B_not (by omega)) ?_|refine Za (by first|assumption) ?_|dsimp only))
  rw[Int.gcd_comm]
  by_cases h3:Int.gcd x m=1
  ·
   rw[B_pos ⟨h1.1,h1.2,h3⟩];simp[h3]
  ·
   rw[B_neg fun h=>h3 h.2.2]
   simp;omega
 ·
  rw[B_neg fun h=>h1 ⟨h.1,h.2.1⟩]
  by_cases h2:1≤x <;> ((with_reducible repeat (first|refine Zj (by first|assumption|omega|rfl|exact B_pos (by omega)) ?_|refine Zi (by first|assumption|omega|decide|exact B_not (by omega)) ?_|refine Za (by first|assumption) ?_|dsimp only));first|done|(with_reducible rfl)|simp (disch:=omega) only[w64]|(show False;done))
theorem Zee (m:Int):ZaY.f m=some (B (2≤m∧m≤12)):=by
 rw[ZaY.f_eq]
 by_cases h:m≥2
 ·
  rw[if_pos h,ZeW,ZbT (show m≤12↔(2≤m∧m≤12)from⟨fun h' => ⟨h,h'⟩,fun h' => h'.2⟩)]
 ·
  rw[if_neg h,B_neg (fun h' => h h'.1)]
theorem ZjB (g:List (List Int)) (m:Int) (u:List Int):Mdl g m u↔(2≤m∧m≤12)∧u.length=g.length∧(∀i:Int,0≤i→i < u.length→1≤rd u i∧rd u i < m∧Int.gcd (rd u i) m=1)∧∀i:Int,0≤i→i < u.length→∀j:Int,0≤j→j < u.length→rd u (T g i j)=rd u i*rd u j%m :=
 ⟨fun h=>⟨⟨h.m2,h.m12⟩,h.len,h.unit,h.hom⟩,fun⟨⟨a,b⟩,c,d,e⟩=>⟨a,b,c,d,e⟩⟩
theorem Zkq {g:List (List Int)} (hg:Grp g) (m:Int) (u:List Int) (hl:u.length≤maxLen):ZD.f g m u=some (B (Mdl g m u)):=by
 have hm:=ZcI
 have n1:=hg.n1
 (rw[ZD.f_eq])
 by_cases h1:2≤m∧m≤12
 rotate_left
 ·
  rw[B_neg fun h=>h1 ⟨h.m2,h.m12⟩]
  ((with_reducible repeat (first|refine Zj (by first|assumption|omega|rfl|exact B_pos (by omega)) ?_|refine Zi (by first|assumption|omega|decide|exact B_not (by omega)) ?_|refine Za (by first|assumption|exact Zee _|exact ZS.f_eq _) ?_|dsimp only));first|done|(with_reducible rfl)|simp (disch:=omega) only[w64]|(show False;done))
 by_cases h3:(u.length:Int)=g.length
 rotate_left
 ·
  rw[B_neg fun h=>h3 (by rw[h.len])]
  ((with_reducible repeat (first|refine Zj (by first|assumption|omega|rfl|exact B_pos (by omega)) ?_|refine Zi (by first|assumption|omega|decide|exact B_not (by omega)) ?_|refine Za (by first|assumption|exact Zee _|exact ZS.f_eq _) ?_|dsimp only));first|done|(with_reducible rfl)|simp (disch:=omega) only[w64]|(show False;done))
 by_cases h5:rd u 0=1
 rotate_left
 ·
  rw[B_neg fun h=>h5 (h.one hg)]
  ((with_reducible repeat (first|refine Zj (by first|assumption|omega|rfl|exact B_pos (by omega)) ?_|refine Zi (by first|assumption|omega|decide|exact B_not (by omega)) ?_|refine Za (by first|assumption|exact Zee _|exact ZS.f_eq _) ?_|dsimp only));first|done|(with_reducible rfl)|simp (disch:=omega) only[w64]|(show False;done))
 (with_reducible repeat (first|refine Zj (by first|assumption|omega|rfl|exact B_pos (by omega)) ?_|refine Zi (by first|assumption|omega|decide|exact B_not (by omega)) ?_|refine Za (by first|assumption|exact Zee _|exact ZS.f_eq _) ?_|dsimp only))
 rw[ZbT (ZjB g m u),ZbT (show((2≤m∧m≤12)∧u.length=g.length∧(∀i:Int,0≤i→i < u.length→1≤rd u i∧rd u i < m∧Int.gcd (rd u i) m=1)∧∀i:Int,0≤i→i < u.length→∀j:Int,0≤j→j < u.length→rd u (T g i j)=rd u i*rd u j%m)↔_ from⟨fun h=>h.2.2,fun h=>⟨h1,by omega,h⟩⟩)]
 refine scanB u.length (fun i=>ZD.l0 u (u.length:Int) i g m u) (fun i=>1≤rd u i∧rd u i < m∧Int.gcd (rd u i) m=1) _ (fun i i0 i1 _ => ?_) (fun hu => ?_)
 ·
  have hu:=ZlQ (m:=m) (x:=rd u i) (by omega)
  refine⟨fun h => ?_,fun h => ?_⟩ <;> (rw[ZD.l0_eq]) <;> ((with_reducible repeat (first|refine Zj (by first|assumption|omega|rfl|exact B_pos (by omega)) ?_|refine Zi (by first|assumption|omega|decide|exact B_not (by omega)) ?_|refine Za (by first|assumption) ?_|dsimp only));first|done|(with_reducible rfl)|simp (disch:=omega) only[w64]|(show False;done))
 (rw[ZD.l0_eq])
 (with_reducible repeat (first|refine Zj (by first|assumption|omega|rfl|exact B_pos (by omega)) ?_|refine Zi (by first|assumption|omega|decide|exact B_not (by omega)) ?_|refine Za (by first|assumption|exact ZS.f_eq _) ?_|dsimp only))
 rw[←h3]
 refine scanT u.length (fun i=>ZD.l1 (u.length:Int) i g m u) (fun i=>∀j:Int,0≤j→j < u.length→rd u (T g i j)=rd u i*rd u j%m) (fun i i0 i1 _ => ?_) (fun _=>by(rw[ZD.l1_eq]);((with_reducible repeat (first|refine Zj (by first|assumption|omega|rfl|exact B_pos (by omega)) ?_|refine Zi (by first|assumption|omega|decide|exact B_not (by omega)) ?_|refine Za (by first|assumption) ?_|dsimp only));first|done|(with_reducible rfl)|simp (disch:=omega) only[w64]|(show False;done)))
 have inner:=scanI u.length (fun j=>ZD.l2 i (u.length:Int) i (u.length:Int) j g m u) (fun j=>rd u (T g i j)=rd u i*rd u j%m) (some false) (ZD.l1 (u.length:Int) (i+1) g m u) (fun j j0 j1 _=>by
  have ht:=times2 hg i0 (by omega) j0 (by omega)
  obtain⟨e0,e1⟩:=hg.ent i j i0 (by omega) j0 (by omega)
  obtain⟨p0,p1⟩:=Zcs (show 0≤rd u i by have:=(hu i i0 i1).1;omega) (hu i i0 i1).2.1 (show 0≤rd u j by have:=(hu j j0 j1).1;omega) (hu j j0 j1).2.1 (by omega)
  have hwp:wrapI (rd u i*rd u j)=rd u i*rd u j:=w64 (by omega) (by omega)
  have e:=ZbW (m:=m) p0
  refine⟨fun h => ?_,fun h => ?_⟩ <;> (rw[ZD.l2_eq,hwp,e]) <;> ((with_reducible repeat (first|refine Zj (by first|assumption|omega|rfl|exact B_pos (by omega)) ?_|refine Zi (by first|assumption|omega|decide|exact B_not (by omega)) ?_|refine Za (by first|assumption) ?_|dsimp only));first|done|(with_reducible rfl)|simp (disch:=omega) only[w64]|(show False;done))) (fun _=>by(rw[ZD.l2_eq]);((with_reducible repeat (first|refine Zj (by first|assumption|omega|rfl|exact B_pos (by omega)) ?_|refine Zi (by first|assumption|omega|decide|exact B_not (by omega)) ?_|refine Za (by first|assumption) ?_|dsimp only));first|done|(with_reducible rfl)|simp (disch:=omega) only[w64]|(show False;done)))
 refine⟨fun h => ?_,fun h => ?_⟩ <;> (rw[ZD.l1_eq]) <;> (with_reducible repeat (first|refine Zj (by first|assumption|omega|rfl|exact B_pos (by omega)) ?_|refine Zi (by first|assumption|omega|decide|exact B_not (by omega)) ?_|refine Za (by first|assumption|exact ZS.f_eq _) ?_|dsimp only)) <;> rw[←h3]
 ·
  exact inner.1 h
 ·
  exact inner.2 h
theorem Is02 {g:List (List Int)} (hg:Grp g) (m:Int) (u:List Int) (hl:u.length≤maxLen):Zad.f g m u=some (B (Mdl g m u)):=by
 have hm:=ZcI
 have n1:=hg.n1
 (rw[Zad.f_eq])
 by_cases h1:2≤m∧m≤12
 rotate_left
 ·
  rw[B_neg fun h=>h1 ⟨h.m2,h.m12⟩]
  ((with_reducible repeat (first|refine Zj (by first|assumption|omega|rfl|exact B_pos (by omega)) ?_|refine Zi (by first|assumption|omega|decide|exact B_not (by omega)) ?_|refine Za (by first|assumption|exact In_ _ _ _) ?_|dsimp only));first|done|(with_reducible rfl)|simp (disch:=omega) only[w64]|(show False;done))
 by_cases h3:(u.length:Int)=g.length
 rotate_left
 ·
  rw[B_neg fun h=>h3 (by rw[h.len])]
  ((with_reducible repeat (first|refine Zj (by first|assumption|omega|rfl|exact B_pos (by omega)) ?_|refine Zi (by first|assumption|omega|decide|exact B_not (by omega)) ?_|refine Za (by first|assumption|exact In_ _ _ _) ?_|dsimp only));first|done|(with_reducible rfl)|simp (disch:=omega) only[w64]|(show False;done))
 (with_reducible repeat (first|refine Zj (by first|assumption|omega|rfl|exact B_pos (by omega)) ?_|refine Zi (by first|assumption|omega|decide|exact B_not (by omega)) ?_|refine Za (by first|assumption|exact In_ _ _ _) ?_|dsimp only))
 rw[ZbT (ZjB g m u),ZbT (show((2≤m∧m≤12)∧u.length=g.length∧(∀i:Int,0≤i→i < u.length→1≤rd u i∧rd u i < m∧Int.gcd (rd u i) m=1)∧∀i:Int,0≤i→i < u.length→∀j:Int,0≤j→j < u.length→rd u (T g i j)=rd u i*rd u j%m)↔_ from⟨fun h=>h.2.2,fun h=>⟨h1,by omega,h⟩⟩)]
 have hw1:wrapI (m - 1)=m - 1:=w64 (by omega) (by omega)
 refine scanB u.length (fun i=>Zad.l0 i g m u) (fun i=>1≤rd u i∧rd u i < m∧Int.gcd (rd u i) m=1) _ (fun i i0 i1 _ => ?_) (fun hu => ?_)
 ·
  refine⟨fun h => ?_,fun h => ?_⟩ <;> (rw[Zad.l0_eq,hw1])
  ·
   have hgc:=Gcd_ (a:=rd u i) (b:=m) (by omega) (by omega) (by omega) (by omega)
   ((with_reducible repeat (first|refine Zj (by first|assumption|omega|rfl|exact B_pos (by omega)) ?_|refine Zi (by first|assumption|omega|decide|exact B_not (by omega)) ?_|refine Za (by first|assumption|exact In_ _ _ _) ?_|dsimp only));first|done|(with_reducible rfl)|simp (disch:=omega) only[w64]|(show False;done))
  ·
   by_cases h6:1≤rd u i∧rd u i < m
   ·
    have hgc:=Gcd_ (a:=rd u i) (b:=m) (by omega) (by omega) (by omega) (by omega)
    ((with_reducible repeat (first|refine Zj (by first|assumption|omega|rfl|exact B_pos (by omega)) ?_|refine Zi (by first|assumption|omega|decide|exact B_not (by omega)) ?_|refine Za (by first|assumption|exact In_ _ _ _) ?_|dsimp only));first|done|(with_reducible rfl)|simp (disch:=omega) only[w64]|(show False;done))
   ·
    ((with_reducible repeat (first|refine Zj (by first|assumption|omega|rfl|exact B_pos (by omega)) ?_|refine Zi (by first|assumption|omega|decide|exact B_not (by omega)) ?_|refine Za (by first|assumption|exact In_ _ _ _) ?_|dsimp only));first|done|(with_reducible rfl)|simp (disch:=omega) only[w64]|(show False;done))
 (rw[Zad.l0_eq])
 (with_reducible repeat (first|refine Zj (by first|assumption|omega|rfl|exact B_pos (by omega)) ?_|refine Zi (by first|assumption|omega|decide|exact B_not (by omega)) ?_|refine Za (by first|assumption) ?_|dsimp only))
 refine scanT u.length (fun i=>Zad.l1 i g m u) (fun i=>∀j:Int,0≤j→j < u.length→rd u (T g i j)=rd u i*rd u j%m) (fun i i0 i1 _ => ?_) (fun _=>by(rw[Zad.l1_eq]);((with_reducible repeat (first|refine Zj (by first|assumption|omega|rfl|exact B_pos (by omega)) ?_|refine Zi (by first|assumption|omega|decide|exact B_not (by omega)) ?_|refine Za (by first|assumption) ?_|dsimp only));first|done|(with_reducible rfl)|simp (disch:=omega) only[w64]|(show False;done)))
 have ri:=hg.row i i0 (by omega)
 have inner:=scanI u.length (fun j=>Zad.l2 i j g m u) (fun j=>rd u (T g i j)=rd u i*rd u j%m) (some false) (Zad.l1 (i+1) g m u) (fun j j0 j1 _=>by
  obtain⟨e0,e1⟩:=hg.ent i j i0 (by omega) j0 (by omega)
  obtain⟨p0,p1⟩:=Zcs (show 0≤rd u i by have:=(hu i i0 i1).1;omega) (hu i i0 i1).2.1 (show 0≤rd u j by have:=(hu j j0 j1).1;omega) (hu j j0 j1).2.1 (by omega)
  have hwp:wrapI (rd u i*rd u j)=rd u i*rd u j:=w64 (by omega) (by omega)
  have e:=ZbW (m:=m) p0
  refine⟨fun h => ?_,fun h => ?_⟩ <;> (rw[Zad.l2_eq,hwp,e]) <;> ((with_reducible repeat (first|refine Zj (by first|assumption|omega|rfl|exact B_pos (by omega)) ?_|refine Zi (by first|assumption|omega|decide|exact B_not (by omega)) ?_|refine Za (by first|assumption) ?_|dsimp only));first|done|(with_reducible rfl)|simp (disch:=omega) only[w64]|(show False;done))) (fun _=>by(rw[Zad.l2_eq]);((with_reducible repeat (first|refine Zj (by first|assumption|omega|rfl|exact B_pos (by omega)) ?_|refine Zi (by first|assumption|omega|decide|exact B_not (by omega)) ?_|refine Za (by first|assumption) ?_|dsimp only));first|done|(with_reducible rfl)|simp (disch:=omega) only[w64]|(show False;done)))
 refine⟨fun h => ?_,fun h => ?_⟩ <;> (rw[Zad.l1_eq]) <;> (with_reducible repeat (first|refine Zj (by first|assumption|omega|rfl|exact B_pos (by omega)) ?_|refine Zi (by first|assumption|omega|decide|exact B_not (by omega)) ?_|refine Za (by first|assumption) ?_|dsimp only))
 ·
  exact inner.1 h
 ·
  exact inner.2 h
def GM (g:List (List Int)) (m:Int) (u:List Int):Prop:=Grp g∧Mdl g m u
theorem Zfb (g:List (List Int)) (hl:g.length≤maxLen) (hr:∀r∈g,r.length≤maxLen) (m:Int) (u:List Int) (hu:u.length≤maxLen):ZZ.f g [(m,u)]=some (B (GM g m u)):=by
 have hG:=Zll g hl hr
 rw[ZZ.f_eq]
 have st:ZZ.l0 [(m,u)] (([(m,u)]:List (Int×List Int)).length:Int) 1 g=some true:=by(rw[ZZ.l0_eq]);exact if_neg (by simp)
 (rw[ZZ.l0_eq])
 rw[if_pos (by simp),if_pos (by simp),if_pos (by simp),hG]
 by_cases h1:Grp g
 ·
  have hM:=Zkq h1 m u hu
  rw[B_pos h1]
  show(Option.bind (ZD.f g m u) _)=_
  rw[hM]
  by_cases h2:Mdl g m u
  ·
   rw[B_pos h2,B_pos ⟨h1,h2⟩]
   simpa [show wrapI 1=1 from w64 (by omega) (by omega)] using st
  ·
   rw[B_neg h2,B_neg fun h=>h2 h.2]
   rfl
 ·
  rw[B_neg h1,B_neg fun h=>h1 h.1]
  rfl
end Go.Proofs.YthmcpmnhdbeahaaGreat.V
namespace Go.Proofs.YthmcpmnhdbeahaaGreat.V
open Go.RowKit Go.Proofs.YthmcpmnhdbeahaaGreat.D Go.Proofs.YthmcpmnhdbeahaaGreat.P
theorem Mod_ {a m:Int} (h0 : -1000000000≤a) (h1:a≤1000000000) (m0:0 < m) (m1:m≤1000000):Za0.f a m=some (a%m):=by
 rw[Za0.f_eq]
 have t0:=Int.tmod_lt_of_pos a m0
 have t1 : -m < Int.tmod a m:=Int.lt_tmod_of_pos a m0
 have hq:=Int.mul_tdiv_add_tmod a m
 have h5:(m*a.tdiv m+a.tmod m)%m=a.tmod m%m:=by rw[Int.add_comm,Int.add_mul_emod_self_left]
 rw[hq]at h5
 rw[w64 (by omega) (by omega),Int.tmod_eq_emod_of_nonneg (show 0≤Int.tmod a m+m by omega),Int.add_emod_right,←h5]
 ((with_reducible repeat (first|refine Zj (by first|assumption|omega|rfl|exact B_pos (by omega)) ?_|refine Zi (by first|assumption|omega|decide|exact B_not (by omega)) ?_|refine Za (by first|assumption) ?_|dsimp only));first|done|(with_reducible rfl)|simp (disch:=omega) only[w64]|(show False;done))
theorem Zls:∀n:Nat,n≤7→∀i:Nat,i≤5→n ^ i≤16807:=by decide
theorem Zii {a:Int} (h0:0≤a) (h1:a≤7) (i:Nat) (hi:i≤5):0≤a ^ i∧a ^ i≤16807:=by
 obtain⟨n,rfl⟩:=Int.eq_ofNat_of_zero_le h0
 have h:=Zls n (by omega) i hi
 rw[←Int.natCast_pow]
 omega
def cells (g:List (List Int)) (d:Int):Int:=((g.length:Int) - 1) ^ d.toNat
theorem Zc7 {g:List (List Int)} (hg:Grp g) {d:Int} (h1:d≤5):0≤cells g d∧cells g d≤16807:=by
 have n8:=hg.n8;have n0:=hg.n1
 exact Zii (by omega) (by omega) _ (by omega)
theorem power {a d:Int} (h0:0≤a) (h1:a≤7) (d0:0≤d) (d1:d≤4):Za5.f a d=some (a ^ d.toNat):=by
 obtain⟨n,rfl⟩:=Int.eq_ofNat_of_zero_le d0
 have:=up n (fun j=>Za5.l0 a (a ^ j) (n:Int) (j:Int)) (fun j hj=>by
  have hw:wrapI ((j:Int)+1)=((j+1:Nat):Int):=by rw[w64 (by omega) (by omega)];omega
  have b:=Zii h0 h1 (j+1) (by omega)
  have hp:wrapI (a ^ j*a)=a ^ (j+1):=by rw[show a ^ j*a=a ^ (j+1)from(Int.pow_succ a j).symm];exact w64 (by omega) (by omega)
  rw[Za5.l0_eq,hw,hp]
  ((with_reducible repeat (first|refine Zj (by first|assumption|omega|rfl|exact B_pos (by omega)) ?_|refine Zi (by first|assumption|omega|decide|exact B_not (by omega)) ?_|refine Za (by first|assumption) ?_|dsimp only));first|done|(with_reducible rfl)|simp (disch:=omega) only[w64]|(show False;done)))
 simp only[Int.pow_zero,Int.natCast_zero]at this
 rw[Za5.f_eq,this,Za5.l0_eq,Int.toNat_natCast]
 ((with_reducible repeat (first|refine Zj (by first|assumption|omega|rfl|exact B_pos (by omega)) ?_|refine Zi (by first|assumption|omega|decide|exact B_not (by omega)) ?_|refine Za (by first|assumption) ?_|dsimp only));first|done|(with_reducible rfl)|simp (disch:=omega) only[w64]|(show False;done))
theorem ZeK {g:List (List Int)} (hg:Grp g) {d:Int} (d0:0≤d) (d1:d≤4):ZaT.f g d=some (cells g d):=by
 have n8:=hg.n8;have n0:=hg.n1
 have hw:wrapI ((g.length:Int) - 1)=g.length - 1:=w64 (by omega) (by omega)
 have hp:=power (a:=(g.length:Int) - 1) (by omega) (by omega) d0 d1
 show _=some (((g.length:Int) - 1) ^ d.toNat)
 rw[ZaT.f_eq,ZS.f_eq,Option.bind_some,hw]
 ((with_reducible repeat (first|refine Zj (by first|assumption|omega|rfl|exact B_pos (by omega)) ?_|refine Zi (by first|assumption|omega|decide|exact B_not (by omega)) ?_|refine Za (by first|assumption) ?_|dsimp only));first|done|(with_reducible rfl)|simp (disch:=omega) only[w64]|(show False;done))
theorem Zd5 {g:List (List Int)} (hg:Grp g) {d:Int} (d0:0≤d) (d1:d≤4):ZG.f g d=some (cells g d):=by
 have n8:=hg.n8;have n0:=hg.n1
 unfold cells
 have hw:wrapI ((g.length:Int) - 1)=g.length - 1:=w64 (by omega) (by omega)
 obtain⟨n,rfl⟩:=Int.eq_ofNat_of_zero_le d0
 suffices H:∀n j:Nat,n+j≤4→ZG.l0 (n:Int) (((g.length:Int) - 1) ^ j) g=some (((g.length:Int) - 1) ^ (j+n))by
  have:=H n 0 (by omega)
  rw[ZG.f_eq]
  simpa using this
 intro n
 induction n with
 | zero=>intro j hj;rw[ZG.l0_eq,Nat.add_zero];((with_reducible repeat (first|refine Zj (by first|assumption|omega|rfl|exact B_pos (by omega)) ?_|refine Zi (by first|assumption|omega|decide|exact B_not (by omega)) ?_|refine Za (by first|assumption) ?_|dsimp only));first|done|(with_reducible rfl)|simp (disch:=omega) only[w64]|(show False;done))
 | succ n ih =>
  intro j hj
  have b:=Zii (a:=(g.length:Int) - 1) (by omega) (by omega) (j+1) (by omega)
  have hp:wrapI (((g.length:Int) - 1) ^ j*((g.length:Int) - 1))=((g.length:Int) - 1) ^ (j+1):=by rw[show((g.length:Int) - 1) ^ j*((g.length:Int) - 1)=((g.length:Int) - 1) ^ (j+1)from(Int.pow_succ _ j).symm];exact w64 (by omega) (by omega)
  have h1:wrapI (((n+1:Nat):Int) - 1)=(n:Int):=by rw[w64 (by omega) (by omega)];omega
  have:=ih (j+1) (by omega)
  rw[show j+1+n=j+(n+1)by omega]at this
  rw[ZG.l0_eq,ZX.f_eq,Option.bind_some,hw,hp,h1]
  (with_reducible repeat (first|refine Zj (by first|assumption|omega|rfl|exact B_pos (by omega)) ?_|refine Zi (by first|assumption|omega|decide|exact B_not (by omega)) ?_|refine Za (by first|assumption) ?_|dsimp only))
  exact this
def Co (g:List (List Int)) (m d:Int) (v:List Int):Prop:=(0≤d∧d≤3)∧(v.length:Int)=cells g d∧AllIn m v
theorem Zgj (d:Int):Za9.f d=some (B (0≤d∧d≤3)):=by
 rw[Za9.f_eq]
 by_cases h:d≥0
 ·
  rw[if_pos h,ZeW,ZbT (show d≤3↔(0≤d∧d≤3)from⟨fun h' => ⟨h,h'⟩,fun h' => h'.2⟩)]
 ·
  rw[if_neg h,B_neg (fun h' => h h'.1)]
theorem ZgZ {g:List (List Int)} (hg:Grp g) (m:Int) (u:List Int) (d:Int) (v:List Int) (hv:v.length≤maxLen):ZaX.f g m u d v=some (B (Co g m d v)):=by
 rw[ZaX.f_eq]
 by_cases h1:0≤d∧d≤3
 rotate_left
 ·
  rw[B_neg fun h=>h1 h.1]
  ((with_reducible repeat (first|refine Zj (by first|assumption|omega|rfl|exact B_pos (by omega)) ?_|refine Zi (by first|assumption|omega|decide|exact B_not (by omega)) ?_|refine Za (by first|assumption|exact Zgj _) ?_|dsimp only));first|done|(with_reducible rfl)|simp (disch:=omega) only[w64]|(show False;done))
 have hc:=ZeK hg h1.1 (by omega)
 have ha:=areIn m v hv
 by_cases h2:(v.length:Int)=cells g d
 rotate_left
 ·
  rw[B_neg fun h=>h2 h.2.1]
  ((with_reducible repeat (first|refine Zj (by first|assumption|omega|rfl|exact B_pos (by omega)) ?_|refine Zi (by first|assumption|omega|decide|exact B_not (by omega)) ?_|refine Za (by first|assumption|exact Zgj _) ?_|dsimp only));first|done|(with_reducible rfl)|simp (disch:=omega) only[w64]|(show False;done))
 (with_reducible repeat (first|refine Zj (by first|assumption|omega|rfl|exact B_pos (by omega)) ?_|refine Zi (by first|assumption|omega|decide|exact B_not (by omega)) ?_|refine Za (by first|assumption|exact Zgj _) ?_|dsimp only))
 rw[ZbT (show AllIn m v↔Co g m d v from⟨fun h=>⟨h1,h2,h⟩,fun h=>h.2.2⟩)]
 simp
theorem Is03 {g:List (List Int)} (hg:Grp g) {m:Int} {u:List Int} (hm:Mdl g m u) (d:Int) (v:List Int) (hv:v.length≤maxLen):Za7.f g m u d v=some (B (Co g m d v)):=by
 have hml:=ZcI
 have m2:=hm.m2;have m12:=hm.m12
 rw[Za7.f_eq]
 by_cases h1:0≤d∧d≤3
 rotate_left
 ·
  rw[B_neg fun h=>h1 h.1]
  ((with_reducible repeat (first|refine Zj (by first|assumption|omega|rfl|exact B_pos (by omega)) ?_|refine Zi (by first|assumption|omega|decide|exact B_not (by omega)) ?_|refine Za (by first|assumption|exact In_ _ _ _) ?_|dsimp only));first|done|(with_reducible rfl)|simp (disch:=omega) only[w64]|(show False;done))
 have hc:=Zd5 hg h1.1 (by omega)
 by_cases h2:(v.length:Int)=cells g d
 rotate_left
 ·
  rw[B_neg fun h=>h2 h.2.1]
  ((with_reducible repeat (first|refine Zj (by first|assumption|omega|rfl|exact B_pos (by omega)) ?_|refine Zi (by first|assumption|omega|decide|exact B_not (by omega)) ?_|refine Za (by first|assumption|exact In_ _ _ _) ?_|dsimp only));first|done|(with_reducible rfl)|simp (disch:=omega) only[w64]|(show False;done))
 (with_reducible repeat (first|refine Zj (by first|assumption|omega|rfl|exact B_pos (by omega)) ?_|refine Zi (by first|assumption|omega|decide|exact B_not (by omega)) ?_|refine Za (by first|assumption|exact In_ _ _ _) ?_|dsimp only))
 rw[ZbT (show Co g m d v↔AllIn m v from⟨fun h=>h.2.2,fun h=>⟨h1,h2,h⟩⟩)]
 have hw:wrapI (m - 1)=m - 1:=w64 (by omega) (by omega)
 refine scanT v.length (fun i=>Za7.l0 i m u d v) (fun i=>0≤rd v i∧rd v i < m) (fun i i0 i1 _ => ?_) (fun _=>by(rw[Za7.l0_eq]);((with_reducible repeat (first|refine Zj (by first|assumption|omega|rfl|exact B_pos (by omega)) ?_|refine Zi (by first|assumption|omega|decide|exact B_not (by omega)) ?_|refine Za (by first|assumption) ?_|dsimp only));first|done|(with_reducible rfl)|simp (disch:=omega) only[w64]|(show False;done)))
 refine⟨fun h => ?_,fun h => ?_⟩ <;> (rw[Za7.l0_eq,hw]) <;> ((with_reducible repeat (first|refine Zj (by first|assumption|omega|rfl|exact B_pos (by omega)) ?_|refine Zi (by first|assumption|omega|decide|exact B_not (by omega)) ?_|refine Za (by first|assumption|exact In_ _ _ _) ?_|dsimp only));first|done|(with_reducible rfl)|simp (disch:=omega) only[w64]|(show False;done))
theorem co_codes (g:List (List Int)) (hl:g.length≤maxLen) (hr:∀r∈g,r.length≤maxLen) (m:Int) (u:List Int) (hu:u.length≤maxLen) (d:Int) (v:List Int) (hv:v.length≤maxLen) :
  (Grp g∧Mdl g m u∧Co g m d v∧ZH.f g m u [(d,v)]=some 0∧ZaJ.f g m u [(d,v)]=some 0) ∨
  (¬ (Grp g∧Mdl g m u∧Co g m d v)∧ZH.f g m u [(d,v)]=some 1∧ZaJ.f g m u [(d,v)]=some 1):=by
 have hA:=Zfb g hl hr m u hu
 have hS:=Is_ g
 have w1:wrapI (0+1)=1:=w64 (by omega) (by omega)
 have stI:ZH.l0 [(d,v)] (([(d,v)]:List (Int×List Int)).length:Int) 1 g m u=some 0:=by rw[ZH.l0_eq];exact if_neg (by simp)
 have stS:ZaJ.l0 [(d,v)] 1 g m u=some 0:=by rw[ZaJ.l0_eq];exact if_neg (by simp)
 have r0:Ty.rd (.pr (.int .i64) (.sl 2 (.int .i64))) [(d,v)] 0=(d,v):=rfl
 rw[ZH.f_eq,ZaJ.f_eq]
 by_cases h:GM g m u
 rotate_left
 ·
  refine .inr ⟨fun k=>h ⟨k.1,k.2.1⟩,?_,?_⟩
  ·
   ((with_reducible repeat (first|refine Zj (by first|assumption|omega|rfl|exact B_pos (by omega)) ?_|refine Zi (by first|assumption|omega|decide|exact B_not (by omega)) ?_|refine Za (by first|assumption) ?_|dsimp only));first|done|(with_reducible rfl)|simp (disch:=omega) only[w64]|(show False;done))
  ·
   by_cases h1:Grp g
   ·
    have hM:=Is02 h1 m u hu
    rw[B_neg fun k=>h ⟨h1,k⟩]at hM
    ((with_reducible repeat (first|refine Zj (by first|assumption|omega|rfl|exact B_pos (by omega)) ?_|refine Zi (by first|assumption|omega|decide|exact B_not (by omega)) ?_|refine Za (by first|assumption) ?_|dsimp only));first|done|(with_reducible rfl)|simp (disch:=omega) only[w64]|(show False;done))
   ·
    ((with_reducible repeat (first|refine Zj (by first|assumption|omega|rfl|exact B_pos (by omega)) ?_|refine Zi (by first|assumption|omega|decide|exact B_not (by omega)) ?_|refine Za (by first|assumption) ?_|dsimp only));first|done|(with_reducible rfl)|simp (disch:=omega) only[w64]|(show False;done))
 have hM:=Is02 h.1 m u hu
 have hI:=ZgZ h.1 m u d v hv
 have hC:=Is03 h.1 h.2 d v hv
 rw[ZH.l0_eq,ZaJ.l0_eq,r0,w1]
 have k1:(0:Int) < (([(d,v)]:List (Int×List Int)).length:Int):=by simp
 have hB:B (GM g m u)=true:=B_pos h
 have hGr:=h.1
 have hMd:=h.2
 by_cases h2:Co g m d v
 ·
  exact .inl ⟨h.1,h.2,h2,by(with_reducible repeat (first|refine Zj (by first|assumption|omega|rfl|exact B_pos (by omega)) ?_|refine Zi (by first|assumption|omega|decide|exact B_not (by omega)) ?_|refine Za (by first|assumption) ?_|dsimp only));exact stI,by(with_reducible repeat (first|refine Zj (by first|assumption|omega|rfl|exact B_pos (by omega)) ?_|refine Zi (by first|assumption|omega|decide|exact B_not (by omega)) ?_|refine Za (by first|assumption) ?_|dsimp only));exact stS⟩
 ·
  exact .inr ⟨fun k=>h2 k.2.2,by((with_reducible repeat (first|refine Zj (by first|assumption|omega|rfl|exact B_pos (by omega)) ?_|refine Zi (by first|assumption|omega|decide|exact B_not (by omega)) ?_|refine Za (by first|assumption) ?_|dsimp only));first|done|(with_reducible rfl)|simp (disch:=omega) only[w64]|(show False;done)),by((with_reducible repeat (first|refine Zj (by first|assumption|omega|rfl|exact B_pos (by omega)) ?_|refine Zi (by first|assumption|omega|decide|exact B_not (by omega)) ?_|refine Za (by first|assumption) ?_|dsimp only));first|done|(with_reducible rfl)|simp (disch:=omega) only[w64]|(show False;done))⟩
def idx (g:List (List Int)) (xs:List Int):Int:=xs.foldl (fun a x=>a*((g.length:Int) - 1)+x - 1) 0
theorem Zgi (g:List (List Int)) (xs:List Int) (x:Int):idx g (xs++[x])=idx g xs*((g.length:Int) - 1)+x - 1:=by simp[idx]
theorem Zia {g:List (List Int)} {xs:List Int} {i:Nat} (h:i < xs.length):idx g (xs.take (i+1))=idx g (xs.take i)*((g.length:Int) - 1)+rd xs (i:Int) - 1:=by
 rw[Zcx h,Zgi]
theorem ZkQ {g:List (List Int)} (hg:Grp g) {xs:List Int} (hx:AllIn g.length xs):∀i:Nat,i≤xs.length→(∀j:Int,0≤j→j < i→¬ rd xs j=0)→0≤idx g (xs.take i)∧idx g (xs.take i)+1≤((g.length:Int) - 1) ^ i:=by
 have n8:=hg.n8;have n1:=hg.n1
 intro i
 induction i with
 | zero=>intro _ _;simp[idx]
 | succ i ih =>
  intro hi hz
  obtain⟨a0,a1⟩:=ih (by omega) (fun j h0 h1=>hz j h0 (by omega))
  obtain⟨x0,x1⟩:=hx i (by omega) (by omega)
  have x2:=hz i (by omega) (by omega)
  rw[Zia (by omega),Int.pow_succ]
  have b1:0≤idx g (xs.take i)*((g.length:Int) - 1):=Int.mul_nonneg a0 (by omega)
  have b2:(idx g (xs.take i)+1)*((g.length:Int) - 1)≤((g.length:Int) - 1) ^ i*((g.length:Int) - 1):=Int.mul_le_mul_of_nonneg_right a1 (by omega)
  rw[Int.add_mul,Int.one_mul]at b2
  omega
def Zci (xs:List Int):Prop:=∀j:Int,0≤j→j < xs.length→¬ rd xs j=0
noncomputable def At (g:List (List Int)) (v xs:List Int):Int:=ite_ (Zci xs) (rd v (idx g xs)) 0
theorem Zh9 {g:List (List Int)} (hg:Grp g) {xs:List Int} (hx:AllIn g.length xs) (hl:xs.length≤4) {n:Nat} (hn:n < xs.length) (hz:∀j:Int,0≤j→j < (n:Int)→¬ rd xs j=0) :
  wrapI (wrapI (wrapI (idx g (xs.take n)*wrapI ((g.length:Int) - 1))+rd xs n) - 1)=idx g (xs.take (n+1))∧wrapI ((n:Int)+1)=(n:Int)+1:=by
 have n8:=hg.n8;have n1:=hg.n1
 obtain⟨a0,a1⟩:=ZkQ hg hx n (by omega) hz
 obtain⟨x0,x1⟩:=hx n (by omega) (by omega)
 have p:=Zii (a:=(g.length:Int) - 1) (by omega) (by omega) n (by omega)
 have b1:0≤idx g (xs.take n)*((g.length:Int) - 1):=Int.mul_nonneg a0 (by omega)
 have b2:idx g (xs.take n)*((g.length:Int) - 1)≤16807*7:=Int.mul_le_mul (by omega) (by omega) (by omega) (by omega)
 rw[w64 (x:=(g.length:Int) - 1) (by omega) (by omega),w64 (x:=idx g (xs.take n)*((g.length:Int) - 1)) (by omega) (by omega),w64 (x:=idx g (xs.take n)*((g.length:Int) - 1)+rd xs n) (by omega) (by omega),w64 (by omega) (by omega),w64 (by omega) (by omega),Zia hn]
 exact⟨rfl,rfl⟩
theorem cell_ {g:List (List Int)} (hg:Grp g) {xs:List Int} (hx:AllIn g.length xs) (hl:xs.length≤4) :
  Zbf.f g xs=some (ite_ (Zci xs) (idx g xs) (-1)):=by
 rw[Zbf.f_eq]
 have:=scan xs.length (fun i=>Zbf.l0 (idx g (xs.take i.toNat)) xs (xs.length:Int) i g) (fun j=>¬ rd xs j=0) (some (-1)) (fun i i0 i1 hz=>by
  obtain⟨n,rfl⟩:=Int.eq_ofNat_of_zero_le i0
  obtain⟨e1,e2⟩:=Zh9 hg hx hl (n:=n) (by omega) hz
  refine⟨fun h => ?_,fun h => ?_⟩
  ·
   rw[Zbf.l0_eq,ZS.f_eq,Option.bind_some,Int.toNat_natCast,e1,e2,show((n:Int)+1).toNat=n+1 by omega]
   ((with_reducible repeat (first|refine Zj (by first|assumption|omega|rfl|exact B_pos (by omega)) ?_|refine Zi (by first|assumption|omega|decide|exact B_not (by omega)) ?_|refine Za (by first|assumption) ?_|dsimp only));first|done|(with_reducible rfl)|simp (disch:=omega) only[w64]|(show False;done))
  ·
   (rw[Zbf.l0_eq])
   ((with_reducible repeat (first|refine Zj (by first|assumption|omega|rfl|exact B_pos (by omega)) ?_|refine Zi (by first|assumption|omega|decide|exact B_not (by omega)) ?_|refine Za (by first|assumption) ?_|dsimp only));first|done|(with_reducible rfl)|simp (disch:=omega) only[w64]|(show False;done)))
 simp only[Int.toNat_zero,List.take_zero,Int.toNat_natCast,List.take_length]at this
 rcases this with ⟨h1,h2⟩|⟨j,j0,j1,_,h1,_,h2⟩
 ·
  have h1:Zci xs:=h1
  rw[Zb0 h1,←show Zbf.l0 (idx g []) xs (xs.length:Int) 0 g=Zbf.l0 0 xs (xs.length:Int) 0 g from rfl,h2]
  (rw[Zbf.l0_eq])
  ((with_reducible repeat (first|refine Zj (by first|assumption|omega|rfl|exact B_pos (by omega)) ?_|refine Zi (by first|assumption|omega|decide|exact B_not (by omega)) ?_|refine Za (by first|assumption) ?_|dsimp only));first|done|(with_reducible rfl)|simp (disch:=omega) only[w64]|(show False;done))
 ·
  rw[ZbP fun q=>h1 (q j j0 j1)]
  exact h2
theorem Zec {g:List (List Int)} (hg:Grp g) {m d:Int} {v:List Int} (hc:Co g m d v) {xs:List Int} (hx:AllIn g.length xs) (hl:(xs.length:Int)=d) (h:Zci xs):0≤idx g xs∧idx g xs < v.length:=by
 obtain⟨⟨d0,d1⟩,hv,ha⟩:=hc
 obtain⟨a0,a1⟩:=ZkQ hg hx xs.length (by omega) h
 rw[List.take_length]at a0 a1
 have e:cells g d=((g.length:Int) - 1) ^ xs.length:=by unfold cells;rw[show d.toNat=xs.length by omega]
 omega
theorem at_ {g:List (List Int)} (hg:Grp g) {m d:Int} {v:List Int} (hc:Co g m d v) {xs:List Int} (hx:AllIn g.length xs) (hl:(xs.length:Int)=d) :
  Zao.f d v g xs=some (At g v xs):=by
 have hd:=hc.1
 have h1:=cell_ hg hx (by omega)
 rw[Zao.f_eq]
 unfold At
 by_cases h:Zci xs
 ·
  obtain⟨a0,a1⟩:=Zec hg hc hx hl h
  rw[Zb0 h]at h1 ⊢
  ((with_reducible repeat (first|refine Zj (by first|assumption|omega|rfl|exact B_pos (by omega)) ?_|refine Zi (by first|assumption|omega|decide|exact B_not (by omega)) ?_|refine Za (by first|assumption) ?_|dsimp only));first|done|(with_reducible rfl)|simp (disch:=omega) only[w64]|(show False;done))
 ·
  rw[ZbP h]at h1 ⊢
  ((with_reducible repeat (first|refine Zj (by first|assumption|omega|rfl|exact B_pos (by omega)) ?_|refine Zi (by first|assumption|omega|decide|exact B_not (by omega)) ?_|refine Za (by first|assumption) ?_|dsimp only));first|done|(with_reducible rfl)|simp (disch:=omega) only[w64]|(show False;done))
theorem At_ {g:List (List Int)} (hg:Grp g) {m d:Int} {u v:List Int} (hc:Co g m d v) {xs:List Int} (hx:AllIn g.length xs) (hl:(xs.length:Int)=d) :
  ZaD.f g d v xs=some (At g v xs):=by
 have hd:=hc.1
 rw[ZaD.f_eq]
 have:=scan xs.length (fun i=>ZaD.l0 xs (idx g (xs.take i.toNat)) i g d v) (fun j=>¬ rd xs j=0) (some 0) (fun i i0 i1 hz=>by
  obtain⟨n,rfl⟩:=Int.eq_ofNat_of_zero_le i0
  obtain⟨e1,e2⟩:=Zh9 hg hx (by omega) (n:=n) (by omega) hz
  refine⟨fun h => ?_,fun h => ?_⟩
  ·
   rw[ZaD.l0_eq,ZX.f_eq,Option.bind_some,Int.toNat_natCast,e1,e2,show((n:Int)+1).toNat=n+1 by omega]
   ((with_reducible repeat (first|refine Zj (by first|assumption|omega|rfl|exact B_pos (by omega)) ?_|refine Zi (by first|assumption|omega|decide|exact B_not (by omega)) ?_|refine Za (by first|assumption) ?_|dsimp only));first|done|(with_reducible rfl)|simp (disch:=omega) only[w64]|(show False;done))
  ·
   (rw[ZaD.l0_eq])
   ((with_reducible repeat (first|refine Zj (by first|assumption|omega|rfl|exact B_pos (by omega)) ?_|refine Zi (by first|assumption|omega|decide|exact B_not (by omega)) ?_|refine Za (by first|assumption) ?_|dsimp only));first|done|(with_reducible rfl)|simp (disch:=omega) only[w64]|(show False;done)))
 simp only[Int.toNat_zero,List.take_zero,Int.toNat_natCast,List.take_length]at this
 unfold At
 rcases this with ⟨h1,h2⟩|⟨j,j0,j1,_,h1,_,h2⟩
 ·
  have h1:Zci xs:=h1
  obtain⟨a0,a1⟩:=Zec hg hc hx hl h1
  rw[Zb0 h1,←show ZaD.l0 xs (idx g []) 0 g d v=ZaD.l0 xs 0 0 g d v from rfl,h2]
  (rw[ZaD.l0_eq])
  ((with_reducible repeat (first|refine Zj (by first|assumption|omega|rfl|exact B_pos (by omega)) ?_|refine Zi (by first|assumption|omega|decide|exact B_not (by omega)) ?_|refine Za (by first|assumption) ?_|dsimp only));first|done|(with_reducible rfl)|simp (disch:=omega) only[w64]|(show False;done))
 ·
  rw[ZbP fun q=>h1 (q j j0 j1)]
  exact h2
theorem At_bd {g:List (List Int)} (hg:Grp g) {m d:Int} {v:List Int} (m0:0 < m) (hc:Co g m d v) {xs:List Int} (hx:AllIn g.length xs) (hl:(xs.length:Int)=d):0≤At g v xs∧At g v xs < m:=by
 unfold At
 by_cases h:Zci xs
 ·
  obtain⟨a0,a1⟩:=Zec hg hc hx hl h
  rw[Zb0 h]
  exact hc.2.2 _ a0 a1
 ·
  rw[ZbP h];omega
end Go.Proofs.YthmcpmnhdbeahaaGreat.V
namespace Go.Proofs.YthmcpmnhdbeahaaGreat.V
open Go.RowKit Go.Proofs.YthmcpmnhdbeahaaGreat.D Go.Proofs.YthmcpmnhdbeahaaGreat.P
def lst (b:Int):Nat→Int→List Int
 | 0,_=>[]
 | n+1,i=>lst b n (i / b)++[i%b+1]
theorem ZcX (b:Int):∀n i,(lst b n i).length=n:=by
 intro n
 induction n with
 | zero=>intro i;rfl
 | succ n ih=>intro i;simp[lst,ih]
theorem ZlS {b:Int} (hb:0 < b):∀n i,∀x∈lst b n i,1≤x∧x < b+1:=by
 intro n
 induction n with
 | zero=>intro i x hx;simp[lst]at hx
 | succ n ih =>
  intro i x hx
  have m0:=Int.emod_nonneg i (show b≠0 by omega)
  have m1:=Int.emod_lt_of_pos i hb
  rcases List.mem_append.1 hx with h|h
  ·
   exact ih _ x h
  ·
   rw[List.mem_singleton]at h;omega
theorem Zil (n:Nat) (t:List Int) (x:Int):(List.replicate (n+1) 0++t).set n x=List.replicate n 0++(x :: t):=by
 rw[List.replicate_succ', List.append_assoc,List.set_append,if_neg (by simp)]
 simp
theorem ZlR {g:List (List Int)} (hg:Grp g) (n:Nat) (h2:n=0∨2≤g.length) (hn:n≤4) {i:Int} (i0:0≤i) (i1:i≤16807) :
  ZaS.f g (n:Int) i=some (lst ((g.length:Int) - 1) n i)∧Zaw.f g (n:Int) i=some (lst ((g.length:Int) - 1) n i):=by
 have n8:=hg.n8;have n1:=hg.n1
 obtain⟨b,hb⟩:∃b:Int,b=(g.length:Int) - 1:=⟨_,rfl⟩
 have hw0:wrapI ((g.length:Int) - 1)=b:=by rw[hb];exact w64 (by omega) (by omega)
 rw[←hb]
 have b1:n=0∨1≤b:=by omega
 have b7:b≤7:=by omega
 have fact:∀(n:Nat) (i:Int),n≤4→1≤b→0≤i→i≤16807→wrapI (Int.tdiv i b)=i / b∧wrapI (1+Int.tmod i b)=i%b+1∧wrapI (Int.tmod i b+1)=i%b+1∧wrapI ((n:Int) - 1)=(n:Int) - 1∧0≤i / b∧i / b≤16807:=by
  intro n i hn b1 i0 i1
  have m0:=Int.emod_nonneg i (show b≠0 by omega)
  have m1:=Int.emod_lt_of_pos i (show 0 < b by omega)
  have d0:0≤i / b:=Int.ediv_nonneg i0 (by omega)
  have d1:i / b≤i:=Int.ediv_le_self _ i0
  rw[ZeE i0,ZbW i0]
  exact⟨w64 (by omega) (by omega),by rw[w64 (by omega) (by omega)];omega,w64 (by omega) (by omega),w64 (by omega) (by omega),d0,by omega⟩
 have hwn:wrapI ((n:Int) - 1)=(n:Int) - 1:=w64 (by omega) (by omega)
 constructor
 ·
  rw[ZaS.f_eq,ZS.f_eq,Option.bind_some,hw0,hwn,Int.toNat_natCast]
  (with_reducible repeat (first|refine Zj (by first|assumption|omega|rfl|exact B_pos (by omega)) ?_|refine Zi (by first|assumption|omega|decide|exact B_not (by omega)) ?_|refine Za (by first|assumption) ?_|dsimp only))
  suffices H:∀(n:Nat) (i:Int) (t:List Int),n≤4→(n=0∨1≤b)→0≤i→i≤16807→ZaS.l0 i b ((n:Int) - 1) (List.replicate n 0++t)=some (lst b n i++t)by
   simpa using H n i [] hn b1 i0 i1
  intro n
  induction n with
  | zero=>intro i t _ _ _ _;rw[ZaS.l0_eq];(with_reducible repeat (first|refine Zj (by first|assumption|omega|rfl|exact B_pos (by omega)) ?_|refine Zi (by first|assumption|omega|decide|exact B_not (by omega)) ?_|refine Za (by first|assumption) ?_|dsimp only));rfl
  | succ n ih =>
   intro i t hn b1 i0 i1
   obtain⟨f1,f2,f3,f5,f6,f7⟩:=fact n i (by omega) (by omega) i0 i1
   have h:=ih (i / b) ((i%b+1) :: t) (by omega) (by omega) f6 f7
   have e:((n+1:Nat):Int) - 1=(n:Int):=by omega
   have l1:(List.replicate (n+1) (0:Int)++t).length=n+1+t.length:=by rw[List.length_append,List.length_replicate]
   rw[e,ZaS.l0_eq,f1,f2,f5,Int.toNat_natCast,Zil]
   (with_reducible repeat (first|refine Zj (by first|assumption|omega|rfl|exact B_pos (by omega)) ?_|refine Zi (by first|assumption|omega|decide|exact B_not (by omega)) ?_|refine Za (by first|assumption) ?_|dsimp only))
   rw[h,lst,List.append_assoc,List.singleton_append]
 ·
  rw[Zaw.f_eq,ZX.f_eq,Option.bind_some,hw0,hwn,Int.toNat_natCast]
  (with_reducible repeat (first|refine Zj (by first|assumption|omega|rfl|exact B_pos (by omega)) ?_|refine Zi (by first|assumption|omega|decide|exact B_not (by omega)) ?_|refine Za (by first|assumption) ?_|dsimp only))
  suffices H:∀(n:Nat) (i:Int) (t:List Int),n≤4→(n=0∨1≤b)→0≤i→i≤16807→Zaw.l0 i b ((n:Int) - 1) (List.replicate n 0++t)=some (lst b n i++t)by
   simpa using H n i [] hn b1 i0 i1
  intro n
  induction n with
  | zero=>intro i t _ _ _ _;rw[Zaw.l0_eq];(with_reducible repeat (first|refine Zj (by first|assumption|omega|rfl|exact B_pos (by omega)) ?_|refine Zi (by first|assumption|omega|decide|exact B_not (by omega)) ?_|refine Za (by first|assumption) ?_|dsimp only));rfl
  | succ n ih =>
   intro i t hn b1 i0 i1
   obtain⟨f1,f2,f3,f5,f6,f7⟩:=fact n i (by omega) (by omega) i0 i1
   have h:=ih (i / b) ((i%b+1) :: t) (by omega) (by omega) f6 f7
   have e:((n+1:Nat):Int) - 1=(n:Int):=by omega
   have l1:(List.replicate (n+1) (0:Int)++t).length=n+1+t.length:=by rw[List.length_append,List.length_replicate]
   rw[e,Zaw.l0_eq,f1,f3,f5,Int.toNat_natCast,Zil]
   (with_reducible repeat (first|refine Zj (by first|assumption|omega|rfl|exact B_pos (by omega)) ?_|refine Zi (by first|assumption|omega|decide|exact B_not (by omega)) ?_|refine Za (by first|assumption) ?_|dsimp only))
   rw[h,lst,List.append_assoc,List.singleton_append]
theorem cells_two {g:List (List Int)} (hg:Grp g) {n:Nat} (hc:0 < cells g n):n=0∨2≤g.length:=by
 have n1:=hg.n1
 by_cases h:n=0
 ·
  exact .inl h
 by_cases h2:2≤g.length
 ·
  exact .inr h2
 ·
  have:(g.length:Int) - 1=0:=by omega
  have e:cells g (n:Int)=0:=by unfold cells;rw[this,Int.toNat_natCast];exact Int.zero_pow h
  omega
theorem Zff {g:List (List Int)} (hg:Grp g) {n i:Nat} (hn:n≤4) (hi:(i:Int) < cells g n):ZaS.f g (n:Int) i=some (lst ((g.length:Int) - 1) n i)∧Zaw.f g (n:Int) i=some (lst ((g.length:Int) - 1) n i):=by
 have hb:=Zc7 hg (d:=(n:Int)) (by omega)
 exact ZlR hg n (cells_two hg (by omega)) hn (by omega) (by omega)
theorem Zgm {g:List (List Int)} (hg:Grp g) {n i:Nat} (hi:(i:Int) < cells g n):AllIn g.length (lst ((g.length:Int) - 1) n i)∧Zci (lst ((g.length:Int) - 1) n i):=by
 have n1:=hg.n1
 have H:∀x∈lst ((g.length:Int) - 1) n i,1≤x∧x < g.length:=by
  rcases cells_two hg (show 0 < cells g n by omega)with h|g2
  ·
   subst h;intro x hx;simp[lst]at hx
  ·
   intro x hx
   have:=ZlS (b:=(g.length:Int) - 1) (by omega) n i x hx
   omega
 exact⟨ZbX fun x hx=>by have:=H x hx;omega,fun j j0 j1 h=>by have:=H _ (ZcM j0 j1);omega⟩
theorem mapped {F:Int→Option Int} {G:Int→Int} (xs:List Int) (hl:xs.length≤1048576) (hF:∀x∈xs,F x=some (G x)):ZaU.f xs F=some (xs.map G):=by
 rw[ZaU.f_eq]
 have:=up xs.length (fun j=>ZaU.l0 F xs (xs.length:Int) (j:Int) ((xs.take j).map G)) (fun j h=>by
  have hw:wrapI ((j:Int)+1)=((j+1:Nat):Int):=by rw[w64 (by omega) (by omega)];omega
  have l1:((xs.take j).map G).length=j:=by rw[List.length_map,List.length_take];omega
  have l2:∀x:Int,([x]:List Int).length=1:=fun _=>rfl
  have hf:=hF _ (ZcM (show(0:Int)≤j by omega) (show(j:Int) < xs.length by omega))
  rw[Zcx h,List.map_append,List.map_singleton,ZaU.l0_eq,hw,hf,Option.bind_some,l1,l2]
  ((with_reducible repeat (first|refine Zj (by first|assumption|omega|rfl|exact B_pos (by omega)) ?_|refine Zi (by first|assumption|omega|decide|exact B_not (by omega)) ?_|refine Za (by first|assumption) ?_|dsimp only));first|done|(with_reducible rfl)|simp (disch:=omega) only[w64]|(show False;done)))
 simp only[Int.natCast_zero,List.take_zero,List.map_nil,List.take_length]at this
 rw[this,ZaU.l0_eq]
 ((with_reducible repeat (first|refine Zj (by first|assumption|omega|rfl|exact B_pos (by omega)) ?_|refine Zi (by first|assumption|omega|decide|exact B_not (by omega)) ?_|refine Za (by first|assumption) ?_|dsimp only));first|done|(with_reducible rfl)|simp (disch:=omega) only[w64]|(show False;done))
theorem Zit (G:Nat→Int) (n i:Nat) (h:i < n):((List.range i).map G++List.replicate (n - i) 0).set i (G i)=(List.range (i+1)).map G++List.replicate (n - (i+1)) 0:=by
 rw[List.set_append,if_neg (by simp),List.length_map,List.length_range,Nat.sub_self,show n - i=(n - (i+1))+1 by omega,List.replicate_succ,List.set_cons_zero,List.range_succ,List.map_append]
 simp
theorem Zi3 (G:Nat→Int) (n i:Nat) (h:i≤n):((List.range i).map G++List.replicate (n - i) 0).length=n:=by rw[List.length_append,List.length_map,List.length_range,List.length_replicate];omega
theorem ZjD {a m:Int} (m0:0 < m) (m1:m≤1000000):Int.tmod (wrapI (Int.tmod a m+m)) m=a%m:=by
 have t0:=Int.tmod_lt_of_pos a m0
 have t1 : -m < Int.tmod a m:=Int.lt_tmod_of_pos a m0
 have hq:=Int.mul_tdiv_add_tmod a m
 have h5:(m*a.tdiv m+a.tmod m)%m=a.tmod m%m:=by rw[Int.add_comm,Int.add_mul_emod_self_left]
 rw[hq]at h5
 rw[w64 (by omega) (by omega),Int.tmod_eq_emod_of_nonneg (show 0≤Int.tmod a m+m by omega),Int.add_emod_right,←h5]
theorem zero_ {g:List (List Int)} (hg:Grp g) {n:Nat} (hn:n≤4):Zbm.f g (n:Int)=some ((n:Int),List.replicate (cells g n).toNat 0):=by
 have hb:=Zc7 hg (d:=(n:Int)) (by omega)
 have hc:=ZeK hg (d:=(n:Int)) (by omega) (by omega)
 rw[Zbm.f_eq]
 ((with_reducible repeat (first|refine Zj (by first|assumption|omega|rfl|exact B_pos (by omega)) ?_|refine Zi (by first|assumption|omega|decide|exact B_not (by omega)) ?_|refine Za (by first|assumption) ?_|dsimp only));first|done|(with_reducible rfl)|simp (disch:=omega) only[w64]|(show False;done))
theorem told {g:List (List Int)} (hg:Grp g) {m:Int} (m2:2≤m) (m12:m≤12) {n:Nat} (hn:n≤4) {F:List Int→Option Int} {G:Nat→Int} (hF:∀i:Nat,(i:Int) < cells g n→F (lst ((g.length:Int) - 1) n i)=some (G i)) :
  Zbl.f g m (n:Int) F=some ((n:Int),(List.range (cells g n).toNat).map fun i=>G i%m):=by
 have hb:=Zc7 hg (d:=(n:Int)) (by omega)
 have hz:=zero_ hg hn
 obtain⟨N,hN⟩:∃N,N=(cells g n).toNat:=⟨_,rfl⟩
 rw[Zbl.f_eq,hz,Option.bind_some,←hN]
 have:=up N (fun j=>Zbl.l0 m (n:Int) F (N:Int) (j:Int) g 0 (n:Int) ((List.range j).map (fun i=>G i%m)++List.replicate (N - j) 0)) (fun j h=>by
  have hw:wrapI ((j:Int)+1)=((j+1:Nat):Int):=by rw[w64 (by omega) (by omega)];omega
  have f:=hF j (by omega)
  have hl:=(Zff hg hn (i:=j) (by omega)).1
  have l1:=Zi3 (fun i=>G i%m) N j (by omega)
  have e:=ZjD (a:=G j) (m:=m) (by omega) (by omega)
  rw[←Zit (fun i=>G i%m) N j h,Zbl.l0_eq,hw,hl,Option.bind_some,f,Option.bind_some,e,Int.toNat_natCast]
  ((with_reducible repeat (first|refine Zj (by first|assumption|omega|rfl|exact B_pos (by omega)) ?_|refine Zi (by first|assumption|omega|decide|exact B_not (by omega)) ?_|refine Za (by first|assumption) ?_|dsimp only));first|done|(with_reducible rfl)|simp (disch:=omega) only[w64]|(show False;done)))
 simp only[Int.natCast_zero,List.range_zero,List.map_nil,List.nil_append,Nat.sub_zero,Nat.sub_self,List.replicate_zero,List.append_nil]at this
 simp only[List.length_replicate]
 rw[this,Zbl.l0_eq]
 ((with_reducible repeat (first|refine Zj (by first|assumption|omega|rfl|exact B_pos (by omega)) ?_|refine Zi (by first|assumption|omega|decide|exact B_not (by omega)) ?_|refine Za (by first|assumption) ?_|dsimp only));first|done|(with_reducible rfl)|simp (disch:=omega) only[w64]|(show False;done))
theorem counting {n:Nat} (hn:n≤1048576):Z9.f (n:Int)=some ((List.range n).map fun i:Nat=>(i:Int)):=by
 rw[Z9.f_eq]
 have:=up n (fun j=>Z9.l0 (n:Int) (j:Int) ((List.range j).map fun i:Nat=>(i:Int))) (fun j hj=>by
  have l1:((List.range j).map fun i:Nat=>(i:Int)).length=j:=by rw[List.length_map,List.length_range]
  have l2:∀x:Int,([x]:List Int).length=1:=fun _=>rfl
  rw[List.range_succ,List.map_append,List.map_singleton,Z9.l0_eq,l1,l2,wn (j:=j) (by omega)]
  ((with_reducible repeat (first|refine Zj (by first|assumption|omega|rfl|exact B_pos (by omega)) ?_|refine Zi (by first|assumption|omega|decide|exact B_not (by omega)) ?_|refine Za (by first|assumption) ?_|dsimp only));first|done|(with_reducible rfl)|simp (disch:=omega) only[w64]|(show False;done)))
 simp only[Int.natCast_zero,List.range_zero,List.map_nil]at this
 rw[this,Z9.l0_eq]
 ((with_reducible repeat (first|refine Zj (by first|assumption|omega|rfl|exact B_pos (by omega)) ?_|refine Zi (by first|assumption|omega|decide|exact B_not (by omega)) ?_|refine Za (by first|assumption) ?_|dsimp only));first|done|(with_reducible rfl)|simp (disch:=omega) only[w64]|(show False;done))
end Go.Proofs.YthmcpmnhdbeahaaGreat.V
namespace Go.Proofs.YthmcpmnhdbeahaaGreat.V
open Go.RowKit Go.Proofs.YthmcpmnhdbeahaaGreat.D Go.Proofs.YthmcpmnhdbeahaaGreat.P
def join2 (g:List (List Int)) (xs:List Int) (j:Nat):List Int:=(xs.take j++[T g (rd xs j) (rd xs (j+1:Nat))])++xs.drop (j+2)
noncomputable def bsum (g:List (List Int)) (u v xs:List Int):Nat→Int×Int
 | 0=>(rd u (rd xs 0)*At g v (xs.drop 1),-1)
 | j+1=>((bsum g u v xs j).1+(bsum g u v xs j).2*At g v (join2 g xs j),0 - (bsum g u v xs j).2)
noncomputable def Bd (g:List (List Int)) (u v xs:List Int) (d:Nat):Int:=(bsum g u v xs d).1+(bsum g u v xs d).2*At g v (xs.take d)
theorem Ze1 {g:List (List Int)} (hg:Grp g) {xs:List Int} (hx:AllIn g.length xs) {j:Nat} (hj:j+1 < xs.length):AllIn g.length (join2 g xs j)∧(join2 g xs j).length+1=xs.length:=by
 obtain⟨a0,a1⟩:=hx j (by omega) (by omega)
 obtain⟨b0,b1⟩:=hx (j+1:Nat) (by omega) (by omega)
 obtain⟨t0,t1⟩:=hg.ent _ _ a0 a1 b0 b1
 refine⟨AllIn.append (AllIn.append (hx.take j) (ZgM t0 t1)) (hx.drop _),?_⟩
 simp only[join2,List.length_append,List.length_take,List.length_drop,List.length_singleton]
 omega
theorem Zlb {g:List (List Int)} (hg:Grp g) {m:Int} {u v xs:List Int} {d:Nat} (hm:Mdl g m u) (hc:Co g m d v) (hx:AllIn g.length xs) (hl:xs.length=d+1) :
  ∀j,j≤d→(-1000000 - 12*(j:Int)≤(bsum g u v xs j).1∧(bsum g u v xs j).1≤1000000+12*(j:Int))∧((bsum g u v xs j).2=1∨(bsum g u v xs j).2 = -1):=by
 have m2:=hm.m2;have m12:=hm.m12
 obtain⟨x0,x1⟩:=hx 0 (by omega) (by omega)
 intro j
 induction j with
 | zero =>
  intro _
  have ha:=At_bd hg (by omega) hc (hx.drop 1) (by rw[List.length_drop,hl];simp)
  obtain⟨c0,c1⟩:=ZdM hm x0 x1 ha.1 ha.2
  rw[show bsum g u v xs 0=(rd u (rd xs 0)*At g v (xs.drop 1),-1)from rfl]
  exact⟨⟨by dsimp only;omega,by dsimp only;omega⟩,.inr rfl⟩
 | succ j ih =>
  intro hj
  obtain⟨⟨h1,h2⟩,h3⟩:=ih (by omega)
  obtain⟨k1,k2⟩:=Ze1 hg hx (j:=j) (by omega)
  have ha:=At_bd hg (by omega) hc k1 (by omega)
  simp only[bsum]
  rcases h3 with h3|h3 <;> rw[h3] <;> refine⟨⟨by omega,by omega⟩,?_⟩
  ·
   exact .inr rfl
  ·
   exact .inl rfl
theorem ZhX {g:List (List Int)} (hg:Grp g) {m:Int} {u v xs ys:List Int} {d:Nat} (hm:Mdl g m u) (hc:Co g m d v) (hx:AllIn g.length xs) (hl:xs.length=d+1) {j:Nat} (hj:j≤d) (hy:AllIn g.length ys) (hyl:ys.length=d) :
  wrapI ((bsum g u v xs j).1+wrapI ((bsum g u v xs j).2*At g v ys))=(bsum g u v xs j).1+(bsum g u v xs j).2*At g v ys∧wrapI (0 - (bsum g u v xs j).2)=0 - (bsum g u v xs j).2 ∧ -2000000≤(bsum g u v xs j).1+(bsum g u v xs j).2*At g v ys∧(bsum g u v xs j).1+(bsum g u v xs j).2*At g v ys≤2000000:=by
 have m2:=hm.m2;have m12:=hm.m12;have d3:=hc.1.2
 obtain⟨⟨s1,s2⟩,s3⟩:=Zlb hg hm hc hx hl j hj
 have hb:=At_bd hg (by omega) hc hy (by omega)
 have p1 : -100≤(bsum g u v xs j).2*At g v ys∧(bsum g u v xs j).2*At g v ys≤100:=by rcases s3 with s3|s3 <;> rw[s3] <;> omega
 rw[w64 (x:=(bsum g u v xs j).2*At g v ys) (by omega) (by omega)]
 exact⟨w64 (by omega) (by omega),w64 (by omega) (by omega),by omega,by omega⟩
theorem ZkP {g:List (List Int)} (hg:Grp g) {m:Int} {u v xs:List Int} {d:Nat} (hm:Mdl g m u) (hc:Co g m d v) (hx:AllIn g.length xs) (hl:xs.length=d+1) :
  wrapI (rd u (rd xs 0)*At g v (xs.drop 1))=rd u (rd xs 0)*At g v (xs.drop 1):=by
 have m2:=hm.m2;have m12:=hm.m12
 obtain⟨x0,x1⟩:=hx 0 (by omega) (by omega)
 have ha:=At_bd hg (by omega) hc (hx.drop 1) (by rw[List.length_drop,hl];simp)
 obtain⟨c0,c1⟩:=ZdM hm x0 x1 ha.1 ha.2
 exact w64 (by omega) (by omega)
theorem Own_ (xs:List Int) (hl:xs.length≤1048576):Zal.f xs=some xs:=by
 rw[Zal.f_eq,List.nil_append,show([]:List Int).length=0 from rfl]
 ((with_reducible repeat (first|refine Zj (by first|assumption|omega|rfl|exact B_pos (by omega)) ?_|refine Zi (by first|assumption|omega|decide|exact B_not (by omega)) ?_|refine Za (by first|assumption) ?_|dsimp only));first|done|(with_reducible rfl)|simp (disch:=omega) only[w64]|(show False;done))
theorem w2n {j:Nat} (h:j < 4611686018427387904):wrapI ((j:Int)+2)=((j+2:Nat):Int):=by rw[w64 (by omega) (by omega)];omega
theorem Zir {g:List (List Int)} (hg:Grp g) {m:Int} {u v xs:List Int} {d:Nat} (hm:Mdl g m u) (hc:Co g m d v) (hx:AllIn g.length xs) (hl:xs.length=d+1) :
  Z4.f g m u d v xs=some (Bd g u v xs d):=by
 have hlu:=hm.len;have n8:=hg.n8;have d3:=hc.1.2
 obtain⟨x0,x1⟩:=hx 0 (by omega) (by omega)
 have h0:=at_ hg hc (hx.drop 1) (by rw[List.length_drop,hl];simp)
 have hat:=at_ hg hc (hx.take d) (by rw[List.length_take,hl];omega)
 have loop:=up d (fun i=>Z4.l0 xs (d:Int) (bsum g u v xs i).1 (bsum g u v xs i).2 (d:Int) (i:Int) g d v) (fun j hj=>by
  obtain⟨a0,a1⟩:=hx j (by omega) (by omega)
  obtain⟨b0,b1⟩:=hx (j+1:Nat) (by omega) (by omega)
  obtain⟨k1,k2⟩:=Ze1 hg hx (j:=j) (by omega)
  have hv:Zao.f d v g (xs.take j++[T g (rd xs j) (rd xs (j+1:Nat))]++xs.drop (j+2))=some (At g v (join2 g xs j)):=show Zao.f d v g (join2 g xs j)=_ from at_ hg hc k1 (by omega)
  have ht:=times2 hg a0 a1 b0 b1
  obtain⟨w3,w4,_,_⟩:=ZhX hg hm hc hx hl (j:=j) (by omega) k1 (by omega)
  have z1:(xs.take j).length=j:=by rw[List.length_take];omega
  have z0:([]:List Int).length=0:=rfl
  have z2:∀y:Int,([y]:List Int).length=1:=fun _=>rfl
  have z3:(xs.drop (j+2)).length=xs.length - (j+2):=List.length_drop
  rw[Z4.l0_eq,wn (j:=j) (by omega),w2n (j:=j) (by omega),Int.toNat_natCast,Int.toNat_natCast,z0,List.nil_append,z1,ht,Option.bind_some,z2]
  rw[List.length_append,z1,z2,z3,hv,Option.bind_some,w3,w4]
  (with_reducible repeat (first|refine Zj (by first|assumption|omega|rfl|exact B_pos (by omega)) ?_|refine Zi (by first|assumption|omega|decide|exact B_not (by omega)) ?_|refine Za (by first|assumption) ?_|dsimp only))
  rfl)
 have wl:wrapI ((xs.length:Int) - 1)=(d:Int):=by rw[w64 (by omega) (by omega)];omega
 obtain⟨w3,_,_,_⟩:=ZhX hg hm hc hx hl (j:=d) (by omega) (hx.take d) (by rw[List.length_take];omega)
 have e1:xs.drop (1:Int).toNat=xs.drop 1:=rfl
 rw[Z4.f_eq,e1,h0,Option.bind_some,wl,ZkP hg hm hc hx hl]
 (with_reducible repeat (first|refine Zj (by first|assumption|omega|rfl|exact B_pos (by omega)) ?_|refine Zi (by first|assumption|omega|decide|exact B_not (by omega)) ?_|refine Za (by first|assumption) ?_|dsimp only))
 refine loop.trans ?_
 rw[Z4.l0_eq,Int.toNat_natCast,hat,Option.bind_some,w3]
 (with_reducible repeat (first|refine Zj (by first|assumption|omega|rfl|exact B_pos (by omega)) ?_|refine Zi (by first|assumption|omega|decide|exact B_not (by omega)) ?_|refine Za (by first|assumption) ?_|dsimp only))
 rfl
theorem Side_ {g:List (List Int)} (hg:Grp g) {m:Int} {u v xs:List Int} {d:Nat} (hm:Mdl g m u) (hc:Co g m d v) (hx:AllIn g.length xs) (hl:xs.length=d+1) :
  Zar.f g m u d v xs=some (Bd g u v xs d%m):=by
 have hlu:=hm.len;have n8:=hg.n8;have d3:=hc.1.2;have m2:=hm.m2;have m12:=hm.m12
 obtain⟨x0,x1⟩:=hx 0 (by omega) (by omega)
 have h0:=At_ (u:=u) hg hc (hx.drop 1) (by rw[List.length_drop,hl];simp)
 have hat:=At_ (u:=u) hg hc (hx.take d) (by rw[List.length_take,hl];omega)
 have loop:=up d (fun i=>Zar.l0 xs (d:Int) (bsum g u v xs i).1 (bsum g u v xs i).2 (i:Int) g m u d v) (fun j hj=>by
  obtain⟨a0,a1⟩:=hx j (by omega) (by omega)
  obtain⟨b0,b1⟩:=hx (j+1:Nat) (by omega) (by omega)
  obtain⟨k1,k2⟩:=Ze1 hg hx (j:=j) (by omega)
  have hv:ZaD.f g d v (xs.take j++[T g (rd xs j) (rd xs (j+1:Nat))]++xs.drop (j+2))=some (At g v (join2 g xs j)):=show ZaD.f g d v (join2 g xs j)=_ from At_ (u:=u) hg hc k1 (by omega)
  have ra:=hg.row _ a0 a1
  obtain⟨w3,w4,_,_⟩:=ZhX hg hm hc hx hl (j:=j) (by omega) k1 (by omega)
  have z1:(xs.take j).length=j:=by rw[List.length_take];omega
  have z2:∀y:Int,([y]:List Int).length=1:=fun _=>rfl
  have z3:(xs.drop (j+2)).length=xs.length - (j+2):=List.length_drop
  have ho:=Own_ (xs.take j) (by omega)
  rw[Zar.l0_eq,wn (j:=j) (by omega),w2n (j:=j) (by omega),Int.toNat_natCast,Int.toNat_natCast,ho,Option.bind_some,z2]
  rw[List.length_append,z1,z2,z3,hv,Option.bind_some,w3,w4]
  (with_reducible repeat (first|refine Zj (by first|assumption|omega|rfl|exact B_pos (by omega)) ?_|refine Zi (by first|assumption|omega|decide|exact B_not (by omega)) ?_|refine Za (by first|assumption) ?_|dsimp only))
  rfl)
 have wl:wrapI ((xs.length:Int) - 1)=(d:Int):=by rw[w64 (by omega) (by omega)];omega
 obtain⟨w3,_,b1,b2⟩:=ZhX hg hm hc hx hl (j:=d) (by omega) (hx.take d) (by rw[List.length_take];omega)
 have e1:xs.drop (1:Int).toNat=xs.drop 1:=rfl
 have hmod:=Mod_ (a:=(bsum g u v xs d).1+(bsum g u v xs d).2*At g v (xs.take d)) (m:=m) (by omega) (by omega) (by omega) (by omega)
 rw[Zar.f_eq,e1,h0,Option.bind_some,wl,ZkP hg hm hc hx hl]
 (with_reducible repeat (first|refine Zj (by first|assumption|omega|rfl|exact B_pos (by omega)) ?_|refine Zi (by first|assumption|omega|decide|exact B_not (by omega)) ?_|refine Za (by first|assumption) ?_|dsimp only))
 refine loop.trans ?_
 rw[Zar.l0_eq,Int.toNat_natCast,hat,Option.bind_some,w3,hmod]
 (with_reducible repeat (first|refine Zj (by first|assumption|omega|rfl|exact B_pos (by omega)) ?_|refine Zi (by first|assumption|omega|decide|exact B_not (by omega)) ?_|refine Za (by first|assumption) ?_|dsimp only))
 rfl
noncomputable def bdV (g:List (List Int)) (u v:List Int) (d i:Nat):Int:=Bd g u v (lst ((g.length:Int) - 1) (d+1) (i:Int)) d
noncomputable def bdL (g:List (List Int)) (m:Int) (u v:List Int) (d:Nat):List Int:=(List.range (cells g ((d+1:Nat):Int)).toNat).map fun i=>bdV g u v d i%m
theorem Zfd {g:List (List Int)} (hg:Grp g) {m:Int} {u v:List Int} {d:Nat} (hm:Mdl g m u) (hc:Co g m d v):ZaK.f g m u d v=some (((d+1:Nat):Int),bdL g m u v d):=by
 have d3:=hc.1.2
 have hT:=told hg hm.m2 hm.m12 (n:=d+1) (by omega) (F:=fun z0=>(ZaM.f z0 g m u d v).map fun z=>z) (G:=bdV g u v d) (fun i hi=>by
  obtain⟨hx,_⟩:=Zgm hg (n:=d+1) (i:=i) hi
  have hll:=ZcX ((g.length:Int) - 1) (d+1) i
  have e:ZaM.f (lst ((g.length:Int) - 1) (d+1) i) g m u d v=some (bdV g u v d i):=by
   rw[ZaM.f_eq,Zir hg hm hc hx hll];rfl
  show Option.map _ (ZaM.f _ g m u d v)=_
  rw[e];rfl)
 rw[ZaK.f_eq,wn (j:=d) (by omega),hT]
 rfl
def Cocy (g:List (List Int)) (m:Int) (u v:List Int) (d:Nat):Prop:=∀i:Int,0≤i→i < (cells g ((d+1:Nat):Int)).toNat→bdV g u v d i.toNat%m=0
theorem Zjr {g:List (List Int)} (hg:Grp g) {m:Int} {u v:List Int} {d:Nat} (hm:Mdl g m u) (hc:Co g m d v):Zak.f g m u d v=some (B (Cocy g m u v d)):=by
 have d3:=hc.1.2
 have hb:=Zc7 hg (d:=((d+1:Nat):Int)) (by omega)
 have hl:(bdL g m u v d).length=(cells g ((d+1:Nat):Int)).toNat:=by rw[bdL,List.length_map,List.length_range]
 rw[Zak.f_eq,Zfd hg hm hc,Option.bind_some,hl]
 refine scanT _ (fun i=>Zak.l0 ((cells g ((d+1:Nat):Int)).toNat:Int) i (bdL g m u v d)) (fun i=>bdV g u v d i.toNat%m=0) (fun i i0 i1 _ => ?_) (fun _=>by(rw[Zak.l0_eq]);((with_reducible repeat (first|refine Zj (by first|assumption|omega|rfl|exact B_pos (by omega)) ?_|refine Zi (by first|assumption|omega|decide|exact B_not (by omega)) ?_|refine Za (by first|assumption) ?_|dsimp only));first|done|(with_reducible rfl)|simp (disch:=omega) only[w64]|(show False;done)))
 obtain⟨n,rfl⟩:=Int.eq_ofNat_of_zero_le i0
 have e:rd (bdL g m u v d) (n:Int)=bdV g u v d n%m:=by
  rw[Zb3 (by omega)];simp[bdL]
 rw[Int.toNat_natCast]
 refine⟨fun h => ?_,fun h => ?_⟩ <;> rw[Zak.l0_eq,e] <;> ((with_reducible repeat (first|refine Zj (by first|assumption|omega|rfl|exact B_pos (by omega)) ?_|refine Zi (by first|assumption|omega|decide|exact B_not (by omega)) ?_|refine Za (by first|assumption) ?_|dsimp only));first|done|(with_reducible rfl)|simp (disch:=omega) only[w64]|(show False;done))
theorem Zkd {g:List (List Int)} (hg:Grp g) {m:Int} {u v:List Int} {d:Nat} (hm:Mdl g m u) (hc:Co g m d v):Z5.f g m u d v=some (B (Cocy g m u v d)):=by
 have d3:=hc.1.2
 have hb:=Zc7 hg (d:=((d+1:Nat):Int)) (by omega)
 have hCl:=Zd5 hg (d:=((d+1:Nat):Int)) (by omega) (by omega)
 rw[Z5.f_eq]
 refine scanT _ (fun i=>Z5.l0 i g m u d v) (fun i=>bdV g u v d i.toNat%m=0) (fun i i0 i1 _ => ?_) (fun _=>by rw[Z5.l0_eq,wn (j:=d) (by omega),hCl,Option.bind_some];((with_reducible repeat (first|refine Zj (by first|assumption|omega|rfl|exact B_pos (by omega)) ?_|refine Zi (by first|assumption|omega|decide|exact B_not (by omega)) ?_|refine Za (by first|assumption) ?_|dsimp only));first|done|(with_reducible rfl)|simp (disch:=omega) only[w64]|(show False;done)))
 obtain⟨n,rfl⟩:=Int.eq_ofNat_of_zero_le i0
 obtain⟨hx,_⟩:=Zgm hg (n:=d+1) (i:=n) (by omega)
 have hll:=ZcX ((g.length:Int) - 1) (d+1) n
 have hL:=(Zff hg (n:=d+1) (i:=n) (by omega) (by omega)).2
 have hS:Zar.f g m u d v (lst ((g.length:Int) - 1) (d+1) n)=some (bdV g u v d n%m):=Side_ hg hm hc hx hll
 rw[Int.toNat_natCast]
 refine⟨fun h => ?_,fun h => ?_⟩ <;> rw[Z5.l0_eq,wn (j:=d) (by omega),hCl,Option.bind_some] <;> ((with_reducible repeat (first|refine Zj (by first|assumption|omega|rfl|exact B_pos (by omega)) ?_|refine Zi (by first|assumption|omega|decide|exact B_not (by omega)) ?_|refine Za (by first|assumption) ?_|dsimp only));first|done|(with_reducible rfl)|simp (disch:=omega) only[w64]|(show False;done))
end Go.Proofs.YthmcpmnhdbeahaaGreat.V
