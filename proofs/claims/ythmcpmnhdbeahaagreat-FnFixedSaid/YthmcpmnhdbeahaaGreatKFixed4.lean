/- What the proof of the law Fixed stands on, part 4: words, each Go function's Lean function, and that the Go code comes to its answers; no condition. (Packed by wip/myprint/pack.py out of what the kit's printer wrote, its words among it, partly by our patches of it, and out of texts of this session.) -/
import Derived.Test.YthmcpmnhdbeahaaGreatKFixed3
set_option linter.unusedVariables false
set_option linter.unusedSimpArgs false
set_option maxRecDepth 100000
namespace Go.Proofs.YthmcpmnhdbeahaaGreat.P
open Go Go.RowKit Go.Proofs.YthmcpmnhdbeahaaGreat.D
noncomputable def Z7.E:Env:={ tt:=TT,con:=[],frz:=[],rows:=[],live:=[],n:=6,pin:=0,nils:=[] }
noncomputable def Z7.fn:D.Fn:={ body:=Tryz.f139.body.getD .skip,res:=Tryz.f139.results.toList,ins:=[.agg [.v (.sl 27 (.sl 2 (.int .i64)))]],outs:=[.one (.v (.int .i64))] }
def Z7.enc (y:lsd (flats Z7.fn.outs)×lsd (ios Z7.fn.ins)):Int:=y.1.1
noncomputable def Z7.f (l0_0:List (List Int)):Option Int:=denF Z7.E Z7.fn Z7.enc (l0_0,())
theorem Z7.f_eq (l0_0:List (List Int)):Z7.f l0_0=some (l0_0.length:Int):=by kernel_rfl
noncomputable def Z7.con:Con:=⟨Z7.fn.ins,Z7.fn.outs,Int,fun x=>Z7.f x.1,fun r=>((r,()),(()))⟩
theorem Z7.valid:Valid Tryz.prog 139 Z7.con:=fnV Z7.fn Z7.E Z7.enc ⟨ttOk,Zap⟩ Tryz.func139
end Go.Proofs.YthmcpmnhdbeahaaGreat.P
namespace Go.Proofs.YthmcpmnhdbeahaaGreat.P
open Go Go.RowKit Go.Proofs.YthmcpmnhdbeahaaGreat.D
noncomputable def Zn.E:Env:={ tt:=TT,con:=[],frz:=[],rows:=[],live:=[(2,[0,1,7,8])],n:=19,pin:=0,nils:=[] }
noncomputable def Zn.fn:D.Fn:={ body:=Tryz.f173.body.getD .skip,res:=Tryz.f173.results.toList,ins:=[.one (.v (.sl 2 (.int .i64))),.one (.v (.int .i64))],outs:=[.one (.v (.int .i64))] }
def Zn.enc (y:lsd (flats Zn.fn.outs)×lsd (ios Zn.fn.ins)):Int:=y.1.1
noncomputable def Zn.f (l0:List Int) (a1:Int):Option Int:=denF Zn.E Zn.fn Zn.enc (l0,a1,())
noncomputable def Zn.l0 (x0:List Int) (x1:Int) (x7:Int) (x8:Int):Option Int:=denAt Zn.E Zn.fn Zn.enc [1,0,1,0] { fr:=[(0,.lf (.sl (.int .i64) x0)),(1,.lf (.int .i64 x1)),(7,.lf (.int .i64 x7)),(8,.lf (.int .i64 x8))],ob:=[],nx:=0 }
theorem Zn.f_eq (l0:List Int) (a1:Int):Zn.f l0 a1=Zn.l0 l0 a1 (l0.length:Int) 0:=by kernel_rfl
theorem Zn.l0_eq (x0:List Int) (x1:Int) (x7:Int) (x8:Int):Zn.l0 x0 x1 x7 x8=if x8 < x7 then(if 0≤x8 then(if x8 < (x0.length:Int)then(if x1=(rd x0 x8)then(some x8)else(Zn.l0 x0 x1 x7 (wrapI (x8+1))))else none)else none)else(some (-1)):=(Zt _ _ _ _).trans (by kernel_rfl)
noncomputable def Zn.con:Con:=⟨Zn.fn.ins,Zn.fn.outs,Int,fun x=>Zn.f x.1 x.2.1,fun r=>((r,()),(()))⟩
theorem Zn.valid:Valid Tryz.prog 173 Zn.con:=fnV Zn.fn Zn.E Zn.enc ⟨ttOk,Zap⟩ Tryz.func173
end Go.Proofs.YthmcpmnhdbeahaaGreat.P
namespace Go.Proofs.YthmcpmnhdbeahaaGreat.P
open Go Go.RowKit Go.Proofs.YthmcpmnhdbeahaaGreat.D
noncomputable def ZV.E:Env:={ tt:=TT,con:=[(173,Zn.con)],frz:=[],rows:=[],live:=[],n:=9,pin:=0,nils:=[] }
noncomputable def ZV.fn:D.Fn:={ body:=Tryz.f190.body.getD .skip,res:=Tryz.f190.results.toList,ins:=[.one (.v (.sl 2 (.int .i64))),.one (.v (.int .i64))],outs:=[.one (.v .bool)] }
def ZV.enc (y:lsd (flats ZV.fn.outs)×lsd (ios ZV.fn.ins)):Bool:=y.1.1
noncomputable def ZV.f (l0:List Int) (a1:Int):Option Bool:=denF ZV.E ZV.fn ZV.enc (l0,a1,())
theorem ZV.f_eq (l0:List Int) (a1:Int):ZV.f l0 a1=(Zn.f l0 a1).bind fun t7=>some (decide (t7≥0)):=by kernel_rfl
noncomputable def ZV.con:Con:=⟨ZV.fn.ins,ZV.fn.outs,Bool,fun x=>ZV.f x.1 x.2.1,fun r=>((r,()),(()))⟩
theorem ZV.valid:Valid Tryz.prog 190 ZV.con:=fnV ZV.fn ZV.E ZV.enc ⟨ttOk,(Ze Zn.valid Zap)⟩ Tryz.func190
end Go.Proofs.YthmcpmnhdbeahaaGreat.P
namespace Go.Proofs.YthmcpmnhdbeahaaGreat.P
open Go Go.RowKit Go.Proofs.YthmcpmnhdbeahaaGreat.D
noncomputable def Zl.E:Env:={ tt:=TT,con:=[(139,Z7.con),(93,ZaY.con),(190,ZV.con)],frz:=[],rows:=[],live:=[(5,[1,3,18,19,20]),(11,[1,3,35,36]),(16,[1,3,6,35,36,68,69]),(19,[1,3,6,7,35,36,68,69,72,73])],n:=110,pin:=0,nils:=[] }
noncomputable def Zl.fn:D.Fn:={ body:=Tryz.f162.body.getD .skip,res:=Tryz.f162.results.toList,ins:=[.agg [.v (.sl 27 (.sl 2 (.int .i64)))]],outs:=[.one (.v .bool)] }
def Zl.enc (y:lsd (flats Zl.fn.outs)×lsd (ios Zl.fn.ins)):Bool:=y.1.1
noncomputable def Zl.f (l0_0:List (List Int)):Option Bool:=denF Zl.E Zl.fn Zl.enc (l0_0,())
noncomputable def Zl.l0 (x3:Int) (x18:List (List Int)) (x19:Int) (x20:Int) (b0_0:List (List Int)):Option Bool:=denAt Zl.E Zl.fn Zl.enc [1,1,1,0,1,0] { fr:=[(1,.lf (.box 0 0)),(3,.lf (.int .i64 x3)),(18,.lf (.sl (.sl 2 (.int .i64)) x18)),(19,.lf (.int .i64 x19)),(20,.lf (.int .i64 x20))],ob:=[(0,.box 26 false [.sl (.sl 2 (.int .i64)) b0_0])],nx:=1 }
noncomputable def Zl.l1 (x3:Int) (x35:Int) (x36:Int) (b0_0:List (List Int)):Option Bool:=denAt Zl.E Zl.fn Zl.enc [1,1,1,1,0,1,0] { fr:=[(1,.lf (.box 0 0)),(3,.lf (.int .i64 x3)),(35,.lf (.int .i64 x35)),(36,.lf (.int .i64 x36))],ob:=[(0,.box 26 false [.sl (.sl 2 (.int .i64)) b0_0])],nx:=1 }
noncomputable def Zl.l2 (x3:Int) (x6:Int) (x35:Int) (x36:Int) (x68:Int) (x69:Int) (b0_0:List (List Int)):Option Bool:=denAt Zl.E Zl.fn Zl.enc [1,1,1,1,0,1,0,0,1,1,0,0,1,1,1,0] { fr:=[(1,.lf (.box 0 0)),(3,.lf (.int .i64 x3)),(6,.lf (.int .i64 x6)),(35,.lf (.int .i64 x35)),(36,.lf (.int .i64 x36)),(68,.lf (.int .i64 x68)),(69,.lf (.int .i64 x69))],ob:=[(0,.box 26 false [.sl (.sl 2 (.int .i64)) b0_0])],nx:=1 }
noncomputable def Zl.l3 (x3:Int) (x6:Int) (x7:Int) (x35:Int) (x36:Int) (x68:Int) (x69:Int) (x72:Int) (x73:Int) (b0_0:List (List Int)):Option Bool:=denAt Zl.E Zl.fn Zl.enc [1,1,1,1,0,1,0,0,1,1,0,0,1,1,1,0,0,1,1,0,0,1,1,0] { fr:=[(1,.lf (.box 0 0)),(3,.lf (.int .i64 x3)),(6,.lf (.int .i64 x6)),(7,.lf (.int .i64 x7)),(35,.lf (.int .i64 x35)),(36,.lf (.int .i64 x36)),(68,.lf (.int .i64 x68)),(69,.lf (.int .i64 x69)),(72,.lf (.int .i64 x72)),(73,.lf (.int .i64 x73))],ob:=[(0,.box 26 false [.sl (.sl 2 (.int .i64)) b0_0])],nx:=1 }
theorem Zl.f_eq (l0_0:List (List Int)):Zl.f l0_0=(Z7.f l0_0).bind fun t10=>if t10 < 1 then(some false)else(if t10 > 8 then(some false)else(Zl.l0 t10 l0_0 (l0_0.length:Int) 0 l0_0)):=by kernel_rfl
theorem Zl.l0_eq (x3:Int) (x18:List (List Int)) (x19:Int) (x20:Int) (b0_0:List (List Int)):Zl.l0 x3 x18 x19 x20 b0_0=if x20 < x19 then(if 0≤x20 then(if x20 < (x18.length:Int)then(if((row x18 x20).length:Int)=x3 then((ZaY.f x3 (row x18 x20)).bind fun t31=>if t31=true then(Zl.l0 x3 x18 x19 (wrapI (x20+1)) b0_0)else(some false))else(some false))else none)else none)else(Zl.l1 x3 x3 0 b0_0):=(Zt _ _ _ _).trans (by kernel_rfl)
theorem Zl.l1_eq (x3:Int) (x35:Int) (x36:Int) (b0_0:List (List Int)):Zl.l1 x3 x35 x36 b0_0=if x36 < x35 then(if 0 < (b0_0.length:Int)then(if 0≤x36 then(if x36 < ((row b0_0 0).length:Int)then(if(T b0_0 0 x36)=x36 then(if 0≤x36 then(if x36 < (b0_0.length:Int)then(if 0 < ((row b0_0 x36).length:Int)then(if(T b0_0 x36 0)=x36 then(if 0≤x36 then(if x36 < (b0_0.length:Int)then((ZV.f (row b0_0 x36) 0).bind fun t65=>if t65=true then(Zl.l2 x3 x36 x35 x36 x3 0 b0_0)else(some false))else none)else none)else(some false))else none)else none)else none)else(some false))else none)else none)else none)else(some true):=(Zt _ _ _ _).trans (by kernel_rfl)
theorem Zl.l2_eq (x3:Int) (x6:Int) (x35:Int) (x36:Int) (x68:Int) (x69:Int) (b0_0:List (List Int)):Zl.l2 x3 x6 x35 x36 x68 x69 b0_0=if x69 < x68 then(Zl.l3 x3 x6 x69 x35 x36 x68 x69 x3 0 b0_0)else(Zl.l1 x3 x35 (wrapI (x36+1)) b0_0):=(Zt _ _ _ _).trans (by kernel_rfl)
theorem Zl.l3_eq (x3:Int) (x6:Int) (x7:Int) (x35:Int) (x36:Int) (x68:Int) (x69:Int) (x72:Int) (x73:Int) (b0_0:List (List Int)):Zl.l3 x3 x6 x7 x35 x36 x68 x69 x72 x73 b0_0=if x73 < x72 then(if 0≤x6 then(if x6 < (b0_0.length:Int)then(if 0≤x7 then(if x7 < ((row b0_0 x6).length:Int)then(if 0≤T b0_0 x6 x7 then(if T b0_0 x6 x7 < (b0_0.length:Int)then(if 0≤x73 then(if x73 < ((row b0_0 (T b0_0 x6 x7)).length:Int)then(if 0≤x6 then(if x6 < (b0_0.length:Int)then(if 0≤x7 then(if x7 < (b0_0.length:Int)then(if 0≤x73 then(if x73 < ((row b0_0 x7).length:Int)then(if 0≤T b0_0 x7 x73 then(if T b0_0 x7 x73 < ((row b0_0 x6).length:Int)then(if(T b0_0 (T b0_0 x6 x7) x73)=(T b0_0 x6 (T b0_0 x7 x73))then(Zl.l3 x3 x6 x7 x35 x36 x68 x69 x72 (wrapI (x73+1)) b0_0)else(some false))else none)else none)else none)else none)else none)else none)else none)else none)else none)else none)else none)else none)else none)else none)else none)else none)else(Zl.l2 x3 x6 x35 x36 x68 (wrapI (x69+1)) b0_0):=(Zt _ _ _ _).trans (by kernel_rfl)
noncomputable def Zl.con:Con:=⟨Zl.fn.ins,Zl.fn.outs,Bool,fun x=>Zl.f x.1,fun r=>((r,()),(()))⟩
theorem Zl.valid:Valid Tryz.prog 162 Zl.con:=fnV Zl.fn Zl.E Zl.enc ⟨ttOk,(Ze Z7.valid (Ze ZaY.valid (Ze ZV.valid Zap)))⟩ Tryz.func162
end Go.Proofs.YthmcpmnhdbeahaaGreat.P
namespace Go.Proofs.YthmcpmnhdbeahaaGreat.P
open Go Go.RowKit Go.Proofs.YthmcpmnhdbeahaaGreat.D
noncomputable def ZaK.E:Env:={ tt:=TT,con:=[],frz:=[],rows:=[],live:=[],n:=9,pin:=0,nils:=[] }
noncomputable def ZaK.fn:D.Fn:={ body:=Tryz.f163.body.getD .skip,res:=Tryz.f163.results.toList,ins:=[.one (.v (.int .i64))],outs:=[.one (.v .bool)] }
def ZaK.enc (y:lsd (flats ZaK.fn.outs)×lsd (ios ZaK.fn.ins)):Bool:=y.1.1
noncomputable def ZaK.f (a0:Int):Option Bool:=denF ZaK.E ZaK.fn ZaK.enc (a0,())
theorem ZaK.f_eq (a0:Int):ZaK.f a0=if a0≥2 then(some (decide (a0≤12)))else(some false):=by kernel_rfl
noncomputable def ZaK.con:Con:=⟨ZaK.fn.ins,ZaK.fn.outs,Bool,fun x=>ZaK.f x.1,fun r=>((r,()),(()))⟩
theorem ZaK.valid:Valid Tryz.prog 163 ZaK.con:=fnV ZaK.fn ZaK.E ZaK.enc ⟨ttOk,Zap⟩ Tryz.func163
end Go.Proofs.YthmcpmnhdbeahaaGreat.P
namespace Go.Proofs.YthmcpmnhdbeahaaGreat.P
open Go Go.RowKit Go.Proofs.YthmcpmnhdbeahaaGreat.D
noncomputable def ZH.E:Env:={ tt:=TT,con:=[],frz:=[],rows:=[],live:=[(3,[2,5,8,9,10])],n:=24,pin:=0,nils:=[] }
noncomputable def ZH.fn:D.Fn:={ body:=Tryz.f172.body.getD .skip,res:=Tryz.f172.results.toList,ins:=[.agg [.v (.sl 27 (.sl 2 (.int .i64)))],.one (.v (.sl 2 (.int .i64)))],outs:=[.one (.v (.int .i64))] }
def ZH.enc (y:lsd (flats ZH.fn.outs)×lsd (ios ZH.fn.ins)):Int:=y.1.1
noncomputable def ZH.f (l0_0:List (List Int)) (l1:List Int):Option Int:=denF ZH.E ZH.fn ZH.enc (l0_0,l1,())
noncomputable def ZH.l0 (x5:Int) (x8:List Int) (x9:Int) (x10:Int) (b0_0:List (List Int)):Option Int:=denAt ZH.E ZH.fn ZH.enc [1,1,0,1,0] { fr:=[(2,.lf (.box 0 0)),(5,.lf (.int .i64 x5)),(8,.lf (.sl (.int .i64) x8)),(9,.lf (.int .i64 x9)),(10,.lf (.int .i64 x10))],ob:=[(0,.box 26 false [.sl (.sl 2 (.int .i64)) b0_0])],nx:=1 }
theorem ZH.f_eq (l0_0:List (List Int)) (l1:List Int):ZH.f l0_0 l1=ZH.l0 0 l1 (l1.length:Int) 0 l0_0:=by kernel_rfl
theorem ZH.l0_eq (x5:Int) (x8:List Int) (x9:Int) (x10:Int) (b0_0:List (List Int)):ZH.l0 x5 x8 x9 x10 b0_0=if x10 < x9 then(if 0≤x10 then(if x10 < (x8.length:Int)then(if 0≤x5 then(if x5 < (b0_0.length:Int)then(if 0≤rd x8 x10 then(if rd x8 x10 < ((row b0_0 x5).length:Int)then(ZH.l0 (T b0_0 x5 (rd x8 x10)) x8 x9 (wrapI (x10+1)) b0_0)else none)else none)else none)else none)else none)else none)else(some x5):=(Zt _ _ _ _).trans (by kernel_rfl)
noncomputable def ZH.con:Con:=⟨ZH.fn.ins,ZH.fn.outs,Int,fun x=>ZH.f x.1 x.2.1,fun r=>((r,()),(()))⟩
theorem ZH.valid:Valid Tryz.prog 172 ZH.con:=fnV ZH.fn ZH.E ZH.enc ⟨ttOk,Zap⟩ Tryz.func172
end Go.Proofs.YthmcpmnhdbeahaaGreat.P
namespace Go.Proofs.YthmcpmnhdbeahaaGreat.P
open Go Go.RowKit Go.Proofs.YthmcpmnhdbeahaaGreat.D
noncomputable def Zbc.E:Env:={ tt:=TT,con:=[],frz:=[],rows:=[],live:=[(1,[0,1])],n:=12,pin:=0,nils:=[] }
noncomputable def Zbc.fn:D.Fn:={ body:=Tryz.f152.body.getD .skip,res:=Tryz.f152.results.toList,ins:=[.one (.v (.int .i64)),.one (.v (.int .i64))],outs:=[.one (.v (.int .i64))] }
def Zbc.enc (y:lsd (flats Zbc.fn.outs)×lsd (ios Zbc.fn.ins)):Int:=y.1.1
noncomputable def Zbc.f (a0:Int) (a1:Int):Option Int:=denF Zbc.E Zbc.fn Zbc.enc (a0,a1,())
noncomputable def Zbc.l0 (x0:Int) (x1:Int):Option Int:=denAt Zbc.E Zbc.fn Zbc.enc [1,0,0] { fr:=[(0,.lf (.int .i64 x0)),(1,.lf (.int .i64 x1))],ob:=[],nx:=0 }
theorem Zbc.f_eq (a0:Int) (a1:Int):Zbc.f a0 a1=Zbc.l0 a0 a1:=by kernel_rfl
theorem Zbc.l0_eq (x0:Int) (x1:Int):Zbc.l0 x0 x1=if x1=0 then(some x0)else(if x1=0 then none else(Zbc.l0 x1 ((x0:Int).tmod x1))):=(Zt _ _ _ _).trans (by kernel_rfl)
noncomputable def Zbc.con:Con:=⟨Zbc.fn.ins,Zbc.fn.outs,Int,fun x=>Zbc.f x.1 x.2.1,fun r=>((r,()),(()))⟩
theorem Zbc.valid:Valid Tryz.prog 152 Zbc.con:=fnV Zbc.fn Zbc.E Zbc.enc ⟨ttOk,Zap⟩ Tryz.func152
end Go.Proofs.YthmcpmnhdbeahaaGreat.P
namespace Go.Proofs.YthmcpmnhdbeahaaGreat.P
open Go Go.RowKit Go.Proofs.YthmcpmnhdbeahaaGreat.D
noncomputable def Zbe.E:Env:={ tt:=TT,con:=[(152,Zbc.con)],frz:=[],rows:=[],live:=[],n:=18,pin:=0,nils:=[] }
noncomputable def Zbe.fn:D.Fn:={ body:=Tryz.f283.body.getD .skip,res:=Tryz.f283.results.toList,ins:=[.one (.v (.int .i64)),.one (.v (.int .i64))],outs:=[.one (.v .bool)] }
def Zbe.enc (y:lsd (flats Zbe.fn.outs)×lsd (ios Zbe.fn.ins)):Bool:=y.1.1
noncomputable def Zbe.f (a0:Int) (a1:Int):Option Bool:=denF Zbe.E Zbe.fn Zbe.enc (a0,a1,())
theorem Zbe.f_eq (a0:Int) (a1:Int):Zbe.f a0 a1=if a1≥1 then(if a1 < a0 then((Zbc.f a0 a1).bind fun t15=>some (decide (t15=1)))else(some false))else(some false):=by kernel_rfl
noncomputable def Zbe.con:Con:=⟨Zbe.fn.ins,Zbe.fn.outs,Bool,fun x=>Zbe.f x.1 x.2.1,fun r=>((r,()),(()))⟩
theorem Zbe.valid:Valid Tryz.prog 283 Zbe.con:=fnV Zbe.fn Zbe.E Zbe.enc ⟨ttOk,(Ze Zbc.valid Zap)⟩ Tryz.func283
end Go.Proofs.YthmcpmnhdbeahaaGreat.P
namespace Go.Proofs.YthmcpmnhdbeahaaGreat.P
open Go Go.RowKit Go.Proofs.YthmcpmnhdbeahaaGreat.D
noncomputable def Zu.E:Env:={ tt:=TT,con:=[(163,ZaK.con),(139,Z7.con),(283,Zbe.con),(172,ZH.con)],frz:=[],rows:=[],live:=[(4,[2,3,29,30,31]),(10,[2,3,42,43]),(13,[2,3,7,42,43,47,48])],n:=77,pin:=0,nils:=[] }
noncomputable def Zu.fn:D.Fn:={ body:=Tryz.f246.body.getD .skip,res:=Tryz.f246.results.toList,ins:=[.agg [.v (.sl 27 (.sl 2 (.int .i64)))],.agg [.v (.int .i64),.v (.sl 2 (.int .i64))]],outs:=[.one (.v .bool)] }
def Zu.enc (y:lsd (flats Zu.fn.outs)×lsd (ios Zu.fn.ins)):Bool:=y.1.1
noncomputable def Zu.f (l0_0:List (List Int)) (a1_0:Int) (l1_1:List Int):Option Bool:=denF Zu.E Zu.fn Zu.enc (l0_0,a1_0,l1_1,())
noncomputable def Zu.l0 (x29:List Int) (x30:Int) (x31:Int) (b0_0:List (List Int)) (b1_0:Int) (b1_1:List Int):Option Bool:=denAt Zu.E Zu.fn Zu.enc [1,1,0,1,0] { fr:=[(2,.lf (.box 0 0)),(3,.lf (.box 1 0)),(29,.lf (.sl (.int .i64) x29)),(30,.lf (.int .i64 x30)),(31,.lf (.int .i64 x31))],ob:=[(0,.box 26 false [.sl (.sl 2 (.int .i64)) b0_0]),(1,.box 29 false [.int .i64 b1_0,.sl (.int .i64) b1_1])],nx:=2 }
noncomputable def Zu.l1 (x42:Int) (x43:Int) (b0_0:List (List Int)) (b1_0:Int) (b1_1:List Int):Option Bool:=denAt Zu.E Zu.fn Zu.enc [1,1,1,0,1,0] { fr:=[(2,.lf (.box 0 0)),(3,.lf (.box 1 0)),(42,.lf (.int .i64 x42)),(43,.lf (.int .i64 x43))],ob:=[(0,.box 26 false [.sl (.sl 2 (.int .i64)) b0_0]),(1,.box 29 false [.int .i64 b1_0,.sl (.int .i64) b1_1])],nx:=2 }
noncomputable def Zu.l2 (x7:Int) (x42:Int) (x43:Int) (x47:Int) (x48:Int) (b0_0:List (List Int)) (b1_0:Int) (b1_1:List Int):Option Bool:=denAt Zu.E Zu.fn Zu.enc [1,1,1,0,1,0,0,1,1,0,0,1,1,0] { fr:=[(2,.lf (.box 0 0)),(3,.lf (.box 1 0)),(7,.lf (.int .i64 x7)),(42,.lf (.int .i64 x42)),(43,.lf (.int .i64 x43)),(47,.lf (.int .i64 x47)),(48,.lf (.int .i64 x48))],ob:=[(0,.box 26 false [.sl (.sl 2 (.int .i64)) b0_0]),(1,.box 29 false [.int .i64 b1_0,.sl (.int .i64) b1_1])],nx:=2 }
theorem Zu.f_eq (l0_0:List (List Int)) (a1_0:Int) (l1_1:List Int):Zu.f l0_0 a1_0 l1_1=(ZaK.f a1_0).bind fun t11=>if t11=true then((Z7.f l0_0).bind fun t18=>if(l1_1.length:Int)=t18 then(if 0 < (l1_1.length:Int)then(if(rd l1_1 0)=1 then(Zu.l0 l1_1 (l1_1.length:Int) 0 l0_0 a1_0 l1_1)else(some false))else none)else(some false))else(some false):=by kernel_rfl
theorem Zu.l0_eq (x29:List Int) (x30:Int) (x31:Int) (b0_0:List (List Int)) (b1_0:Int) (b1_1:List Int):Zu.l0 x29 x30 x31 b0_0 b1_0 b1_1=if x31 < x30 then(if 0≤x31 then(if x31 < (x29.length:Int)then((Zbe.f b1_0 (rd x29 x31)).bind fun t38=>if t38=true then(Zu.l0 x29 x30 (wrapI (x31+1)) b0_0 b1_0 b1_1)else(some false))else none)else none)else((Z7.f b0_0).bind fun t42=>Zu.l1 t42 0 b0_0 b1_0 b1_1):=(Zt _ _ _ _).trans (by kernel_rfl)
theorem Zu.l1_eq (x42:Int) (x43:Int) (b0_0:List (List Int)) (b1_0:Int) (b1_1:List Int):Zu.l1 x42 x43 b0_0 b1_0 b1_1=if x43 < x42 then((Z7.f b0_0).bind fun t47=>Zu.l2 x43 x42 x43 t47 0 b0_0 b1_0 b1_1)else(some true):=(Zt _ _ _ _).trans (by kernel_rfl)
theorem Zu.l2_eq (x7:Int) (x42:Int) (x43:Int) (x47:Int) (x48:Int) (b0_0:List (List Int)) (b1_0:Int) (b1_1:List Int):Zu.l2 x7 x42 x43 x47 x48 b0_0 b1_0 b1_1=if x48 < x47 then((ZH.f b0_0 ([x7,x48]:List Int)).bind fun t57=>if 0≤t57 then(if t57 < (b1_1.length:Int)then(if 0≤x7 then(if x7 < (b1_1.length:Int)then(if 0≤x48 then(if x48 < (b1_1.length:Int)then(if b1_0=0 then none else(if(rd b1_1 t57)=((wrapI ((rd b1_1 x7)*(rd b1_1 x48)):Int).tmod b1_0)then(Zu.l2 x7 x42 x43 x47 (wrapI (x48+1)) b0_0 b1_0 b1_1)else(some false)))else none)else none)else none)else none)else none)else none)else(Zu.l1 x42 (wrapI (x43+1)) b0_0 b1_0 b1_1):=(Zt _ _ _ _).trans (by kernel_rfl)
noncomputable def Zu.con:Con:=⟨Zu.fn.ins,Zu.fn.outs,Bool,fun x=>Zu.f x.1 x.2.1 x.2.2.1,fun r=>((r,()),(()))⟩
theorem Zu.valid:Valid Tryz.prog 246 Zu.con:=fnV Zu.fn Zu.E Zu.enc ⟨ttOk,(Ze ZaK.valid (Ze Z7.valid (Ze Zbe.valid (Ze ZH.valid Zap))))⟩ Tryz.func246
end Go.Proofs.YthmcpmnhdbeahaaGreat.P
namespace Go.Proofs.YthmcpmnhdbeahaaGreat.P
open Go Go.RowKit Go.Proofs.YthmcpmnhdbeahaaGreat.D
noncomputable def ZI.E:Env:={ tt:=TT,con:=[(162,Zl.con),(246,Zu.con)],frz:=[],rows:=[],live:=[(2,[2,7,8,9])],n:=23,pin:=0,nils:=[] }
noncomputable def ZI.fn:D.Fn:={ body:=Tryz.f181.body.getD .skip,res:=Tryz.f181.results.toList,ins:=[.agg [.v (.sl 27 (.sl 2 (.int .i64)))],.one (.v (.sl 29 (.pr (.int .i64) (.sl 2 (.int .i64)))))],outs:=[.one (.v .bool)] }
def ZI.enc (y:lsd (flats ZI.fn.outs)×lsd (ios ZI.fn.ins)):Bool:=y.1.1
noncomputable def ZI.f (l0_0:List (List Int)) (l1:List (Int×(List Int))):Option Bool:=denF ZI.E ZI.fn ZI.enc (l0_0,l1,())
noncomputable def ZI.l0 (x7:List (Int×(List Int))) (x8:Int) (x9:Int) (b0_0:List (List Int)):Option Bool:=denAt ZI.E ZI.fn ZI.enc [1,0,1,0] { fr:=[(2,.lf (.box 0 0)),(7,.lf (.sl (.pr (.int .i64) (.sl 2 (.int .i64))) x7)),(8,.lf (.int .i64 x8)),(9,.lf (.int .i64 x9))],ob:=[(0,.box 26 false [.sl (.sl 2 (.int .i64)) b0_0])],nx:=1 }
theorem ZI.f_eq (l0_0:List (List Int)) (l1:List (Int×(List Int))):ZI.f l0_0 l1=ZI.l0 l1 (l1.length:Int) 0 l0_0:=by kernel_rfl
theorem ZI.l0_eq (x7:List (Int×(List Int))) (x8:Int) (x9:Int) (b0_0:List (List Int)):ZI.l0 x7 x8 x9 b0_0=if x9 < x8 then(if 0≤x9 then(if x9 < (x7.length:Int)then((Zl.f b0_0).bind fun t14=>if t14=true then((Zu.f b0_0 ((Ty.rd (.pr (.int .i64) (.sl 2 (.int .i64))) x7 x9).1) ((Ty.rd (.pr (.int .i64) (.sl 2 (.int .i64))) x7 x9).2)).bind fun t19=>if t19=true then(ZI.l0 x7 x8 (wrapI (x9+1)) b0_0)else(some false))else(some false))else none)else none)else(some true):=(Zt _ _ _ _).trans (by kernel_rfl)
noncomputable def ZI.con:Con:=⟨ZI.fn.ins,ZI.fn.outs,Bool,fun x=>ZI.f x.1 x.2.1,fun r=>((r,()),(()))⟩
theorem ZI.valid:Valid Tryz.prog 181 ZI.con:=fnV ZI.fn ZI.E ZI.enc ⟨ttOk,(Ze Zl.valid (Ze Zu.valid Zap))⟩ Tryz.func181
end Go.Proofs.YthmcpmnhdbeahaaGreat.P
namespace Go.Proofs.YthmcpmnhdbeahaaGreat.P
open Go Go.RowKit Go.Proofs.YthmcpmnhdbeahaaGreat.D
noncomputable def ZC.E:Env:={ tt:=TT,con:=[(181,ZI.con)],frz:=[],rows:=[],live:=[],n:=9,pin:=0,nils:=[] }
noncomputable def ZC.fn:D.Fn:={ body:=Tryz.f107.body.getD .skip,res:=Tryz.f107.results.toList,ins:=[.agg [.v (.sl 27 (.sl 2 (.int .i64)))],.one (.v (.sl 29 (.pr (.int .i64) (.sl 2 (.int .i64)))))],outs:=[.one (.v (.int .i64))] }
def ZC.enc (y:lsd (flats ZC.fn.outs)×lsd (ios ZC.fn.ins)):Int:=y.1.1
noncomputable def ZC.f (l0_0:List (List Int)) (l1:List (Int×(List Int))):Option Int:=denF ZC.E ZC.fn ZC.enc (l0_0,l1,())
theorem ZC.f_eq (l0_0:List (List Int)) (l1:List (Int×(List Int))):ZC.f l0_0 l1=(ZI.f l0_0 l1).bind fun t7=>if t7=true then(some 0)else(some 1):=by kernel_rfl
noncomputable def ZC.con:Con:=⟨ZC.fn.ins,ZC.fn.outs,Int,fun x=>ZC.f x.1 x.2.1,fun r=>((r,()),(()))⟩
theorem ZC.valid:Valid Tryz.prog 107 ZC.con:=fnV ZC.fn ZC.E ZC.enc ⟨ttOk,(Ze ZI.valid Zap)⟩ Tryz.func107
end Go.Proofs.YthmcpmnhdbeahaaGreat.P
namespace Go.Proofs.YthmcpmnhdbeahaaGreat.P
open Go Go.RowKit Go.Proofs.YthmcpmnhdbeahaaGreat.D
noncomputable def ZQ.E:Env:={ tt:=TT,con:=[],frz:=[],rows:=[],live:=[(3,[3,6,7])],n:=16,pin:=0,nils:=[] }
noncomputable def ZQ.fn:D.Fn:={ body:=Tryz.f138.body.getD .skip,res:=Tryz.f138.results.toList,ins:=[.one (.v (.int .i64))],outs:=[.one (.own 2 true (.int .i64))] }
def ZQ.enc (y:lsd (flats ZQ.fn.outs)×lsd (ios ZQ.fn.ins)):(List Int):=y.1.1
noncomputable def ZQ.f (a0:Int):Option (List Int):=denF ZQ.E ZQ.fn ZQ.enc (a0,())
noncomputable def ZQ.l0 (x6:Int) (x7:Int) (r0:List Int):Option (List Int):=denAt ZQ.E ZQ.fn ZQ.enc [1,1,0,1,0] { fr:=[(3,.lf (.own 0)),(6,.lf (.int .i64 x6)),(7,.lf (.int .i64 x7))],ob:=[(0,.row 2 true (.int .i64) r0)],nx:=1 }
theorem ZQ.f_eq (a0:Int):ZQ.f a0=ZQ.l0 a0 0 ([]:List Int):=by kernel_rfl
theorem ZQ.l0_eq (x6:Int) (x7:Int) (r0:List Int):ZQ.l0 x6 x7 r0=if x7 < x6 then(if r0.length+([x7]:List Int).length≤17592186044416 then(ZQ.l0 x6 (wrapI (x7+1)) (r0++([x7]:List Int)))else none)else(some r0):=(Zt _ _ _ _).trans (by kernel_rfl)
noncomputable def ZQ.con:Con:=⟨ZQ.fn.ins,ZQ.fn.outs,(List Int),fun x=>ZQ.f x.1,fun r=>((r,()),(()))⟩
theorem ZQ.valid:Valid Tryz.prog 138 ZQ.con:=fnV ZQ.fn ZQ.E ZQ.enc ⟨ttOk,Zap⟩ Tryz.func138
end Go.Proofs.YthmcpmnhdbeahaaGreat.P
namespace Go.Proofs.YthmcpmnhdbeahaaGreat.P
open Go Go.RowKit Go.Proofs.YthmcpmnhdbeahaaGreat.D
noncomputable def Za.E:Env:={ tt:=TT,con:=[],frz:=[],rows:=[],live:=[(2,[0,1,7,8])],n:=19,pin:=0,nils:=[] }
noncomputable def Za.fn:D.Fn:={ body:=Tryz.f219.body.getD .skip,res:=Tryz.f219.results.toList,ins:=[.one (.v (.sl 2 (.int .i64))),.one (.fn [(.int .i64)] .bool)],outs:=[.one (.v (.int .i64))] }
def Za.enc (y:lsd (flats Za.fn.outs)×lsd (ios Za.fn.ins)):Int:=y.1.1
noncomputable def Za.f (l0:List Int) (f1:Int→Option Bool):Option Int:=denF Za.E Za.fn Za.enc (l0,fun x=>f1 x.1,())
noncomputable def Za.l0 (x0:List Int) (fx1:Int→Option Bool) (x7:Int) (x8:Int):Option Int:=denAt Za.E Za.fn Za.enc [1,0,1,0] { fr:=[(0,.lf (.sl (.int .i64) x0)),(1,.lf (.fn [(.int .i64)] .bool (fun x=>fx1 x.1))),(7,.lf (.int .i64 x7)),(8,.lf (.int .i64 x8))],ob:=[],nx:=0 }
theorem Za.f_eq (l0:List Int) (f1:Int→Option Bool):Za.f l0 f1=Za.l0 l0 f1 (l0.length:Int) 0:=by kernel_rfl
theorem Za.l0_eq (x0:List Int) (fx1:Int→Option Bool) (x7:Int) (x8:Int):Za.l0 x0 fx1 x7 x8=if x8 < x7 then(if 0≤x8 then(if x8 < (x0.length:Int)then((fx1 (rd x0 x8)).bind fun t16=>if t16=true then(some x8)else(Za.l0 x0 fx1 x7 (wrapI (x8+1))))else none)else none)else(some (-1)):=(Zt _ _ _ _).trans (by kernel_rfl)
noncomputable def Za.con:Con:=⟨Za.fn.ins,Za.fn.outs,Int,fun x=>Za.f x.1 (fun z0=>x.2.1 (z0,())),fun r=>((r,()),(()))⟩
theorem Za.valid:Valid Tryz.prog 219 Za.con:=fnV Za.fn Za.E Za.enc ⟨ttOk,Zap⟩ Tryz.func219
end Go.Proofs.YthmcpmnhdbeahaaGreat.P
namespace Go.Proofs.YthmcpmnhdbeahaaGreat.P
open Go Go.RowKit Go.Proofs.YthmcpmnhdbeahaaGreat.D
noncomputable def Zd.E:Env:={ tt:=TT,con:=[(219,Za.con)],frz:=[],rows:=[],live:=[(5,[0,1,5,6])],n:=42,pin:=0,nils:=[] }
noncomputable def Zd.fn:D.Fn:={ body:=Tryz.f145.body.getD .skip,res:=Tryz.f145.results.toList,ins:=[.eat 2 true (.int .i64),.one (.fn [(.int .i64)] .bool)],outs:=[.one (.own 2 true (.int .i64))] }
def Zd.enc (y:lsd (flats Zd.fn.outs)×lsd (ios Zd.fn.ins)):(List Int):=y.1.1
noncomputable def Zd.f (l0:List Int) (f1:Int→Option Bool):Option (List Int):=denF Zd.E Zd.fn Zd.enc (l0,fun x=>f1 x.1,())
noncomputable def Zd.l0 (fx1:Int→Option Bool) (x5:Int) (x6:Int) (r0:List Int):Option (List Int):=denAt Zd.E Zd.fn Zd.enc [1,1,1,0,1,0] { fr:=[(0,.lf (.own 0)),(1,.lf (.fn [(.int .i64)] .bool (fun x=>fx1 x.1))),(5,.lf (.int .i64 x5)),(6,.lf (.int .i64 x6))],ob:=[(0,.row 2 true (.int .i64) r0)],nx:=1 }
theorem Zd.f_eq (l0:List Int) (f1:Int→Option Bool):Zd.f l0 f1=(Za.f l0 (fun z0=>(f1 z0).map fun z=>z)).bind fun t10=>if t10=(-1)then(some l0)else(Zd.l0 f1 t10 (wrapI (t10+1)) l0):=by kernel_rfl
theorem Zd.l0_eq (fx1:Int→Option Bool) (x5:Int) (x6:Int) (r0:List Int):Zd.l0 fx1 x5 x6 r0=if x6 < (r0.length:Int)then(if 0≤x6 then(if x6 < (r0.length:Int)then(if 0≤x6 then(if x6 < (r0.length:Int)then((fx1 (rd r0 x6)).bind fun t28=>if t28=true then(Zd.l0 fx1 x5 (wrapI (x6+1)) r0)else(if 0≤x5 then(if x5 < (r0.length:Int)then(if 0≤x5 then(if x5 < (r0.length:Int)then(Zd.l0 fx1 (wrapI (x5+1)) (wrapI (x6+1)) (r0.set (x5:Int).toNat (rd r0 x6)))else none)else none)else none)else none))else none)else none)else none)else none)else(if 0 < (r0.length:Int)then(if 0≤x5 then(if x5≤(r0.length:Int)then(if 0 < ((r0.take ((x5:Int).toNat)++List.replicate (r0.length - ((x5:Int).toNat)) 0).length:Int)then(if 0≤x5 then(if x5≤((r0.take ((x5:Int).toNat)++List.replicate (r0.length - ((x5:Int).toNat)) 0).length:Int)then(some ((r0.take ((x5:Int).toNat)++List.replicate (r0.length - ((x5:Int).toNat)) 0).take (x5:Int).toNat))else none)else none)else none)else none)else none)else none):=(Zt _ _ _ _).trans (by kernel_rfl)
noncomputable def Zd.con:Con:=⟨Zd.fn.ins,Zd.fn.outs,(List Int),fun x=>Zd.f x.1 (fun z0=>x.2.1 (z0,())),fun r=>((r,()),(()))⟩
theorem Zd.valid:Valid Tryz.prog 145 Zd.con:=fnV Zd.fn Zd.E Zd.enc ⟨ttOk,(Ze Za.valid Zap)⟩ Tryz.func145
end Go.Proofs.YthmcpmnhdbeahaaGreat.P
namespace Go.Proofs.YthmcpmnhdbeahaaGreat.P
open Go Go.RowKit Go.Proofs.YthmcpmnhdbeahaaGreat.D
noncomputable def Zr.E:Env:={ tt:=TT,con:=[(219,Za.con)],frz:=[],rows:=[],live:=[],n:=9,pin:=0,nils:=[] }
noncomputable def Zr.fn:D.Fn:={ body:=Tryz.f147.body.getD .skip,res:=Tryz.f147.results.toList,ins:=[.one (.v (.sl 2 (.int .i64))),.one (.fn [(.int .i64)] .bool)],outs:=[.one (.v .bool)] }
def Zr.enc (y:lsd (flats Zr.fn.outs)×lsd (ios Zr.fn.ins)):Bool:=y.1.1
noncomputable def Zr.f (l0:List Int) (f1:Int→Option Bool):Option Bool:=denF Zr.E Zr.fn Zr.enc (l0,fun x=>f1 x.1,())
theorem Zr.f_eq (l0:List Int) (f1:Int→Option Bool):Zr.f l0 f1=(Za.f l0 (fun z0=>(f1 z0).map fun z=>z)).bind fun t7=>some (decide (t7≥0)):=by kernel_rfl
noncomputable def Zr.con:Con:=⟨Zr.fn.ins,Zr.fn.outs,Bool,fun x=>Zr.f x.1 (fun z0=>x.2.1 (z0,())),fun r=>((r,()),(()))⟩
theorem Zr.valid:Valid Tryz.prog 147 Zr.con:=fnV Zr.fn Zr.E Zr.enc ⟨ttOk,(Ze Za.valid Zap)⟩ Tryz.func147
end Go.Proofs.YthmcpmnhdbeahaaGreat.P
namespace Go.Proofs.YthmcpmnhdbeahaaGreat.P
open Go Go.RowKit Go.Proofs.YthmcpmnhdbeahaaGreat.D
noncomputable def ZS.E:Env:={ tt:=TT,con:=[],frz:=[],rows:=[],live:=[],n:=13,pin:=0,nils:=[] }
noncomputable def ZS.fn:D.Fn:={ body:=Tryz.f148.body.getD .skip,res:=Tryz.f148.results.toList,ins:=[.one (.v (.int .i64)),.ptr true 2 [.v (.int .i64)],.ptr true 29 [.v (.int .i64),.v (.sl 2 (.int .i64))]],outs:=[.one (.v .bool)] }
def ZS.enc (y:lsd (flats ZS.fn.outs)×lsd (ios ZS.fn.ins)):Bool:=y.1.1
noncomputable def ZS.f (a0:Int) (a1:Int) (a2_0:Int) (l2_1:List Int):Option Bool:=denF ZS.E ZS.fn ZS.enc (a0,a1,a2_0,l2_1,())
theorem ZS.f_eq (a0:Int) (a1:Int) (a2_0:Int) (l2_1:List Int):ZS.f a0 a1 a2_0 l2_1=if a2_0=0 then none else(some (!decide (((wrapI (a0*a1):Int).tmod a2_0)=a1))):=by kernel_rfl
noncomputable def ZS.con:Con:=⟨ZS.fn.ins,ZS.fn.outs,Bool,fun x=>ZS.f x.1 x.2.1 x.2.2.1 x.2.2.2.1,fun r=>((r,()),(()))⟩
theorem ZS.valid:Valid Tryz.prog 148 ZS.con:=fnV ZS.fn ZS.E ZS.enc ⟨ttOk,Zap⟩ Tryz.func148
end Go.Proofs.YthmcpmnhdbeahaaGreat.P
namespace Go.Proofs.YthmcpmnhdbeahaaGreat.P
open Go Go.RowKit Go.Proofs.YthmcpmnhdbeahaaGreat.D
noncomputable def Zaa.E:Env:={ tt:=TT,con:=[(147,Zr.con),(148,ZS.con)],frz:=[],rows:=[],live:=[],n:=8,pin:=0,nils:=[] }
noncomputable def Zaa.fn:D.Fn:={ body:=Tryz.f146.body.getD .skip,res:=Tryz.f146.results.toList,ins:=[.one (.v (.int .i64)),.ptr true 29 [.v (.int .i64),.v (.sl 2 (.int .i64))]],outs:=[.one (.v .bool)] }
def Zaa.enc (y:lsd (flats Zaa.fn.outs)×lsd (ios Zaa.fn.ins)):Bool:=y.1.1
noncomputable def Zaa.f (a0:Int) (a1_0:Int) (l1_1:List Int):Option Bool:=denF Zaa.E Zaa.fn Zaa.enc (a0,a1_0,l1_1,())
theorem Zaa.f_eq (a0:Int) (a1_0:Int) (l1_1:List Int):Zaa.f a0 a1_0 l1_1=(Zr.f l1_1 (fun z0=>(ZS.f z0 a0 a1_0 l1_1).map fun z=>z)).bind fun t7=>some (decide (t7=true)):=by kernel_rfl
noncomputable def Zaa.con:Con:=⟨Zaa.fn.ins,Zaa.fn.outs,Bool,fun x=>Zaa.f x.1 x.2.1 x.2.2.1,fun r=>((r,()),(()))⟩
theorem Zaa.valid:Valid Tryz.prog 146 Zaa.con:=fnV Zaa.fn Zaa.E Zaa.enc ⟨ttOk,(Ze Zr.valid (Ze ZS.valid Zap))⟩ Tryz.func146
end Go.Proofs.YthmcpmnhdbeahaaGreat.P
namespace Go.Proofs.YthmcpmnhdbeahaaGreat.P
open Go Go.RowKit Go.Proofs.YthmcpmnhdbeahaaGreat.D
noncomputable def Zal.E:Env:={ tt:=TT,con:=[(107,ZC.con),(138,ZQ.con),(145,Zd.con),(146,Zaa.con)],frz:=[],rows:=[9],live:=[],n:=19,pin:=0,nils:=[] }
noncomputable def Zal.fn:D.Fn:={ body:=Tryz.f63.body.getD .skip,res:=Tryz.f63.results.toList,ins:=[.agg [.v (.sl 27 (.sl 2 (.int .i64)))],.agg [.v (.int .i64),.v (.sl 2 (.int .i64))]],outs:=[.one (.own 2 true (.int .i64)),.one (.v (.int .i64))] }
def Zal.enc (y:lsd (flats Zal.fn.outs)×lsd (ios Zal.fn.ins)):(List Int)×Int:=(y.1.1,y.1.2.1)
noncomputable def Zal.f (l0_0:List (List Int)) (a1_0:Int) (l1_1:List Int):Option ((List Int)×Int):=denF Zal.E Zal.fn Zal.enc (l0_0,a1_0,l1_1,())
theorem Zal.f_eq (l0_0:List (List Int)) (a1_0:Int) (l1_1:List Int):Zal.f l0_0 a1_0 l1_1=(ZC.f l0_0 ([(a1_0,l1_1)]:List (Int×(List Int)))).bind fun t10=>if t10=0 then((ZQ.f a1_0).bind fun t16=>(Zd.f t16 (fun z0=>(Zaa.f z0 a1_0 l1_1).map fun z=>z)).bind fun t18=>some (t18,0))else(some (([]:List Int),t10)):=by kernel_rfl
noncomputable def Zal.con:Con:=⟨Zal.fn.ins,Zal.fn.outs,(List Int)×Int,fun x=>Zal.f x.1 x.2.1 x.2.2.1,fun r=>((r.1,r.2,()),(()))⟩
theorem Zal.valid:Valid Tryz.prog 63 Zal.con:=fnV Zal.fn Zal.E Zal.enc ⟨ttOk,(Ze ZC.valid (Ze ZQ.valid (Ze Zd.valid (Ze Zaa.valid Zap))))⟩ Tryz.func63
end Go.Proofs.YthmcpmnhdbeahaaGreat.P
namespace Go.Proofs.YthmcpmnhdbeahaaGreat.P
open Go Go.RowKit Go.Proofs.YthmcpmnhdbeahaaGreat.D
noncomputable def Zab.E:Env:={ tt:=TT,con:=[(103,Za5.con),(183,ZaB.con)],frz:=[],rows:=[],live:=[(4,[2,3,5]),(9,[2,3,6]),(12,[2,3,6,7])],n:=90,pin:=0,nils:=[] }
noncomputable def Zab.fn:D.Fn:={ body:=Tryz.f110.body.getD .skip,res:=Tryz.f110.results.toList,ins:=[.agg [.v (.sl 27 (.sl 2 (.int .i64)))],.agg [.v (.int .i64),.v (.sl 2 (.int .i64))]],outs:=[.one (.v .bool)] }
def Zab.enc (y:lsd (flats Zab.fn.outs)×lsd (ios Zab.fn.ins)):Bool:=y.1.1
noncomputable def Zab.f (l0_0:List (List Int)) (a1_0:Int) (l1_1:List Int):Option Bool:=denF Zab.E Zab.fn Zab.enc (l0_0,a1_0,l1_1,())
noncomputable def Zab.l0 (x5:Int) (b0_0:List (List Int)) (b1_0:Int) (b1_1:List Int):Option Bool:=denAt Zab.E Zab.fn Zab.enc [1,1,0,1,0] { fr:=[(2,.lf (.box 0 0)),(3,.lf (.box 1 0)),(5,.lf (.int .i64 x5))],ob:=[(0,.box 26 false [.sl (.sl 2 (.int .i64)) b0_0]),(1,.box 29 false [.int .i64 b1_0,.sl (.int .i64) b1_1])],nx:=2 }
noncomputable def Zab.l1 (x6:Int) (b0_0:List (List Int)) (b1_0:Int) (b1_1:List Int):Option Bool:=denAt Zab.E Zab.fn Zab.enc [1,1,1,0,1,0] { fr:=[(2,.lf (.box 0 0)),(3,.lf (.box 1 0)),(6,.lf (.int .i64 x6))],ob:=[(0,.box 26 false [.sl (.sl 2 (.int .i64)) b0_0]),(1,.box 29 false [.int .i64 b1_0,.sl (.int .i64) b1_1])],nx:=2 }
noncomputable def Zab.l2 (x6:Int) (x7:Int) (b0_0:List (List Int)) (b1_0:Int) (b1_1:List Int):Option Bool:=denAt Zab.E Zab.fn Zab.enc [1,1,1,0,1,0,0,1,0,0,1,0] { fr:=[(2,.lf (.box 0 0)),(3,.lf (.box 1 0)),(6,.lf (.int .i64 x6)),(7,.lf (.int .i64 x7))],ob:=[(0,.box 26 false [.sl (.sl 2 (.int .i64)) b0_0]),(1,.box 29 false [.int .i64 b1_0,.sl (.int .i64) b1_1])],nx:=2 }
theorem Zab.f_eq (l0_0:List (List Int)) (a1_0:Int) (l1_1:List Int):Zab.f l0_0 a1_0 l1_1=(Za5.f a1_0 2 12).bind fun t10=>if t10=true then(if(l1_1.length:Int)=(l0_0.length:Int)then(Zab.l0 0 l0_0 a1_0 l1_1)else(some false))else(some false):=by kernel_rfl
theorem Zab.l0_eq (x5:Int) (b0_0:List (List Int)) (b1_0:Int) (b1_1:List Int):Zab.l0 x5 b0_0 b1_0 b1_1=if x5 < (b1_1.length:Int)then(if 0≤x5 then(if x5 < (b1_1.length:Int)then((Za5.f (rd b1_1 x5) 1 (wrapI (b1_0 - 1))).bind fun t36=>if t36=true then(if 0≤x5 then(if x5 < (b1_1.length:Int)then((ZaB.f (rd b1_1 x5) b1_0).bind fun t46=>if t46=1 then(Zab.l0 (wrapI (x5+1)) b0_0 b1_0 b1_1)else(some false))else none)else none)else(some false))else none)else none)else(Zab.l1 0 b0_0 b1_0 b1_1):=(Zt _ _ _ _).trans (by kernel_rfl)
theorem Zab.l1_eq (x6:Int) (b0_0:List (List Int)) (b1_0:Int) (b1_1:List Int):Zab.l1 x6 b0_0 b1_0 b1_1=if x6 < (b1_1.length:Int)then(Zab.l2 x6 0 b0_0 b1_0 b1_1)else(some true):=(Zt _ _ _ _).trans (by kernel_rfl)
theorem Zab.l2_eq (x6:Int) (x7:Int) (b0_0:List (List Int)) (b1_0:Int) (b1_1:List Int):Zab.l2 x6 x7 b0_0 b1_0 b1_1=if x7 < (b1_1.length:Int)then(if 0≤x6 then(if x6 < (b0_0.length:Int)then(if 0≤x7 then(if x7 < ((row b0_0 x6).length:Int)then(if 0≤T b0_0 x6 x7 then(if T b0_0 x6 x7 < (b1_1.length:Int)then(if 0≤x6 then(if x6 < (b1_1.length:Int)then(if 0≤x7 then(if x7 < (b1_1.length:Int)then(if b1_0=0 then none else(if(rd b1_1 (T b0_0 x6 x7))=((wrapI ((rd b1_1 x6)*(rd b1_1 x7)):Int).tmod b1_0)then(Zab.l2 x6 (wrapI (x7+1)) b0_0 b1_0 b1_1)else(some false)))else none)else none)else none)else none)else none)else none)else none)else none)else none)else none)else(Zab.l1 (wrapI (x6+1)) b0_0 b1_0 b1_1):=(Zt _ _ _ _).trans (by kernel_rfl)
noncomputable def Zab.con:Con:=⟨Zab.fn.ins,Zab.fn.outs,Bool,fun x=>Zab.f x.1 x.2.1 x.2.2.1,fun r=>((r,()),(()))⟩
theorem Zab.valid:Valid Tryz.prog 110 Zab.con:=fnV Zab.fn Zab.E Zab.enc ⟨ttOk,(Ze Za5.valid (Ze ZaB.valid Zap))⟩ Tryz.func110
end Go.Proofs.YthmcpmnhdbeahaaGreat.P
namespace Go.Proofs.YthmcpmnhdbeahaaGreat.P
open Go Go.RowKit Go.Proofs.YthmcpmnhdbeahaaGreat.D
noncomputable def ZG.E:Env:={ tt:=TT,con:=[(109,Zj.con),(110,Zab.con)],frz:=[],rows:=[],live:=[(4,[1,2,5])],n:=22,pin:=0,nils:=[] }
noncomputable def ZG.fn:D.Fn:={ body:=Tryz.f149.body.getD .skip,res:=Tryz.f149.results.toList,ins:=[.agg [.v (.sl 27 (.sl 2 (.int .i64)))],.one (.v (.sl 29 (.pr (.int .i64) (.sl 2 (.int .i64)))))],outs:=[.one (.v (.int .i64))] }
def ZG.enc (y:lsd (flats ZG.fn.outs)×lsd (ios ZG.fn.ins)):Int:=y.1.1
noncomputable def ZG.f (l0_0:List (List Int)) (l1:List (Int×(List Int))):Option Int:=denF ZG.E ZG.fn ZG.enc (l0_0,l1,())
noncomputable def ZG.l0 (x1:List (Int×(List Int))) (x5:Int) (b0_0:List (List Int)):Option Int:=denAt ZG.E ZG.fn ZG.enc [1,1,0,1,0] { fr:=[(1,.lf (.sl (.pr (.int .i64) (.sl 2 (.int .i64))) x1)),(2,.lf (.box 0 0)),(5,.lf (.int .i64 x5))],ob:=[(0,.box 26 false [.sl (.sl 2 (.int .i64)) b0_0])],nx:=1 }
theorem ZG.f_eq (l0_0:List (List Int)) (l1:List (Int×(List Int))):ZG.f l0_0 l1=(Zj.f l0_0).bind fun t7=>if t7=true then(ZG.l0 l1 0 l0_0)else(some 1):=by kernel_rfl
theorem ZG.l0_eq (x1:List (Int×(List Int))) (x5:Int) (b0_0:List (List Int)):ZG.l0 x1 x5 b0_0=if x5 < (x1.length:Int)then(if 0≤x5 then(if x5 < (x1.length:Int)then((Zab.f b0_0 ((Ty.rd (.pr (.int .i64) (.sl 2 (.int .i64))) x1 x5).1) ((Ty.rd (.pr (.int .i64) (.sl 2 (.int .i64))) x1 x5).2)).bind fun t20=>if t20=true then(ZG.l0 x1 (wrapI (x5+1)) b0_0)else(some 1))else none)else none)else(some 0):=(Zt _ _ _ _).trans (by kernel_rfl)
noncomputable def ZG.con:Con:=⟨ZG.fn.ins,ZG.fn.outs,Int,fun x=>ZG.f x.1 x.2.1,fun r=>((r,()),(()))⟩
theorem ZG.valid:Valid Tryz.prog 149 ZG.con:=fnV ZG.fn ZG.E ZG.enc ⟨ttOk,(Ze Zj.valid (Ze Zab.valid Zap))⟩ Tryz.func149
end Go.Proofs.YthmcpmnhdbeahaaGreat.P
namespace Go.Proofs.YthmcpmnhdbeahaaGreat.P
open Go Go.RowKit Go.Proofs.YthmcpmnhdbeahaaGreat.D
noncomputable def ZE.E:Env:={ tt:=TT,con:=[],frz:=[],rows:=[],live:=[(3,[0,1,5,6])],n:=19,pin:=0,nils:=[] }
noncomputable def ZE.fn:D.Fn:={ body:=Tryz.f150.body.getD .skip,res:=Tryz.f150.results.toList,ins:=[.one (.v (.int .i64)),.one (.v (.int .i64))],outs:=[.one (.own 2 true (.int .i64))] }
def ZE.enc (y:lsd (flats ZE.fn.outs)×lsd (ios ZE.fn.ins)):(List Int):=y.1.1
noncomputable def ZE.f (a0:Int) (a1:Int):Option (List Int):=denF ZE.E ZE.fn ZE.enc (a0,a1,())
noncomputable def ZE.l0 (x0:Int) (x1:Int) (x6:Int) (r0:List Int):Option (List Int):=denAt ZE.E ZE.fn ZE.enc [1,1,0,1,0] { fr:=[(0,.lf (.int .i64 x0)),(1,.lf (.int .i64 x1)),(5,.lf (.own 0)),(6,.lf (.int .i64 x6))],ob:=[(0,.row 2 true (.int .i64) r0)],nx:=1 }
theorem ZE.f_eq (a0:Int) (a1:Int):ZE.f a0 a1=ZE.l0 a0 a1 0 ([]:List Int):=by kernel_rfl
theorem ZE.l0_eq (x0:Int) (x1:Int) (x6:Int) (r0:List Int):ZE.l0 x0 x1 x6 r0=if x6 < x1 then(if r0.length+([x6]:List Int).length≤17592186044416 then(ZE.l0 x0 x1 (wrapI (x6+x0)) (r0++([x6]:List Int)))else none)else(some r0):=(Zt _ _ _ _).trans (by kernel_rfl)
noncomputable def ZE.con:Con:=⟨ZE.fn.ins,ZE.fn.outs,(List Int),fun x=>ZE.f x.1 x.2.1,fun r=>((r,()),(()))⟩
theorem ZE.valid:Valid Tryz.prog 150 ZE.con:=fnV ZE.fn ZE.E ZE.enc ⟨ttOk,Zap⟩ Tryz.func150
end Go.Proofs.YthmcpmnhdbeahaaGreat.P
namespace Go.Proofs.YthmcpmnhdbeahaaGreat.P
open Go Go.RowKit Go.Proofs.YthmcpmnhdbeahaaGreat.D
noncomputable def Zav.E:Env:={ tt:=TT,con:=[(183,ZaB.con)],frz:=[],rows:=[],live:=[(3,[1,3,4])],n:=23,pin:=0,nils:=[] }
noncomputable def Zav.fn:D.Fn:={ body:=Tryz.f151.body.getD .skip,res:=Tryz.f151.results.toList,ins:=[.agg [.v (.int .i64),.v (.sl 2 (.int .i64))]],outs:=[.one (.v (.int .i64))] }
def Zav.enc (y:lsd (flats Zav.fn.outs)×lsd (ios Zav.fn.ins)):Int:=y.1.1
noncomputable def Zav.f (a0_0:Int) (l0_1:List Int):Option Int:=denF Zav.E Zav.fn Zav.enc (a0_0,l0_1,())
noncomputable def Zav.l0 (x3:Int) (x4:Int) (b0_0:Int) (b0_1:List Int):Option Int:=denAt Zav.E Zav.fn Zav.enc [1,1,0,1,0] { fr:=[(1,.lf (.box 0 0)),(3,.lf (.int .i64 x3)),(4,.lf (.int .i64 x4))],ob:=[(0,.box 29 false [.int .i64 b0_0,.sl (.int .i64) b0_1])],nx:=1 }
theorem Zav.f_eq (a0_0:Int) (l0_1:List Int):Zav.f a0_0 l0_1=Zav.l0 a0_0 0 a0_0 l0_1:=by kernel_rfl
theorem Zav.l0_eq (x3:Int) (x4:Int) (b0_0:Int) (b0_1:List Int):Zav.l0 x3 x4 b0_0 b0_1=if x4 < (b0_1.length:Int)then(if 0≤x4 then(if x4 < (b0_1.length:Int)then((ZaB.f x3 (wrapI ((rd b0_1 x4) - 1))).bind fun t21=>Zav.l0 t21 (wrapI (x4+1)) b0_0 b0_1)else none)else none)else(some x3):=(Zt _ _ _ _).trans (by kernel_rfl)
noncomputable def Zav.con:Con:=⟨Zav.fn.ins,Zav.fn.outs,Int,fun x=>Zav.f x.1 x.2.1,fun r=>((r,()),(()))⟩
theorem Zav.valid:Valid Tryz.prog 151 Zav.con:=fnV Zav.fn Zav.E Zav.enc ⟨ttOk,(Ze ZaB.valid Zap)⟩ Tryz.func151
end Go.Proofs.YthmcpmnhdbeahaaGreat.P
namespace Go.Proofs.YthmcpmnhdbeahaaGreat.P
open Go Go.RowKit Go.Proofs.YthmcpmnhdbeahaaGreat.D
noncomputable def Zam.E:Env:={ tt:=TT,con:=[(149,ZG.con),(151,Zav.con),(150,ZE.con)],frz:=[],rows:=[9],live:=[],n:=22,pin:=0,nils:=[] }
noncomputable def Zam.fn:D.Fn:={ body:=Tryz.f64.body.getD .skip,res:=Tryz.f64.results.toList,ins:=[.agg [.v (.sl 27 (.sl 2 (.int .i64)))],.agg [.v (.int .i64),.v (.sl 2 (.int .i64))]],outs:=[.one (.own 2 true (.int .i64)),.one (.v (.int .i64))] }
def Zam.enc (y:lsd (flats Zam.fn.outs)×lsd (ios Zam.fn.ins)):(List Int)×Int:=(y.1.1,y.1.2.1)
noncomputable def Zam.f (l0_0:List (List Int)) (a1_0:Int) (l1_1:List Int):Option ((List Int)×Int):=denF Zam.E Zam.fn Zam.enc (l0_0,a1_0,l1_1,())
theorem Zam.f_eq (l0_0:List (List Int)) (a1_0:Int) (l1_1:List Int):Zam.f l0_0 a1_0 l1_1=(ZG.f l0_0 ([(a1_0,l1_1)]:List (Int×(List Int)))).bind fun t10=>if t10=0 then((Zav.f a1_0 l1_1).bind fun t17=>if t17=0 then none else((ZE.f (wrapI ((a1_0:Int).tdiv t17)) a1_0).bind fun t21=>some (t21,0)))else(some (([]:List Int),t10)):=by kernel_rfl
noncomputable def Zam.con:Con:=⟨Zam.fn.ins,Zam.fn.outs,(List Int)×Int,fun x=>Zam.f x.1 x.2.1 x.2.2.1,fun r=>((r.1,r.2,()),(()))⟩
theorem Zam.valid:Valid Tryz.prog 64 Zam.con:=fnV Zam.fn Zam.E Zam.enc ⟨ttOk,(Ze ZG.valid (Ze Zav.valid (Ze ZE.valid Zap)))⟩ Tryz.func64
end Go.Proofs.YthmcpmnhdbeahaaGreat.P
namespace Go.Proofs.YthmcpmnhdbeahaaGreat.P
open Go Go.RowKit Go.Proofs.YthmcpmnhdbeahaaGreat.D
noncomputable def ZD.E:Env:={ tt:=TT,con:=[],frz:=[],rows:=[],live:=[],n:=8,pin:=0,nils:=[] }
noncomputable def ZD.fn:D.Fn:={ body:=Tryz.f153.body.getD .skip,res:=Tryz.f153.results.toList,ins:=[.one (.v (.int .i64)),.ptr true 2 [.v (.int .i64)]],outs:=[.one (.v .bool)] }
def ZD.enc (y:lsd (flats ZD.fn.outs)×lsd (ios ZD.fn.ins)):Bool:=y.1.1
noncomputable def ZD.f (a0:Int) (a1:Int):Option Bool:=denF ZD.E ZD.fn ZD.enc (a0,a1,())
theorem ZD.f_eq (a0:Int) (a1:Int):ZD.f a0 a1=if a1=0 then none else(some (!decide (((a0:Int).tmod a1)=0))):=by kernel_rfl
noncomputable def ZD.con:Con:=⟨ZD.fn.ins,ZD.fn.outs,Bool,fun x=>ZD.f x.1 x.2.1,fun r=>((r,()),(()))⟩
theorem ZD.valid:Valid Tryz.prog 153 ZD.con:=fnV ZD.fn ZD.E ZD.enc ⟨ttOk,Zap⟩ Tryz.func153
end Go.Proofs.YthmcpmnhdbeahaaGreat.P
namespace Go.Proofs.YthmcpmnhdbeahaaGreat.P
open Go Go.RowKit Go.Proofs.YthmcpmnhdbeahaaGreat.D
noncomputable def Zg.E:Env:={ tt:=TT,con:=[(107,ZC.con),(152,Zbc.con),(138,ZQ.con),(145,Zd.con),(153,ZD.con)],frz:=[],rows:=[12],live:=[(6,[3,7,20,21,22])],n:=36,pin:=0,nils:=[] }
noncomputable def Zg.fn:D.Fn:={ body:=Tryz.f65.body.getD .skip,res:=Tryz.f65.results.toList,ins:=[.agg [.v (.sl 27 (.sl 2 (.int .i64)))],.agg [.v (.int .i64),.v (.sl 2 (.int .i64))]],outs:=[.one (.own 2 true (.int .i64)),.one (.v (.int .i64))] }
def Zg.enc (y:lsd (flats Zg.fn.outs)×lsd (ios Zg.fn.ins)):(List Int)×Int:=(y.1.1,y.1.2.1)
noncomputable def Zg.f (l0_0:List (List Int)) (a1_0:Int) (l1_1:List Int):Option ((List Int)×Int):=denF Zg.E Zg.fn Zg.enc (l0_0,a1_0,l1_1,())
noncomputable def Zg.l0 (x20:List Int) (x21:Int) (x22:Int) (b0_0:Int) (b0_1:List Int) (b1_0:Int):Option ((List Int)×Int):=denAt Zg.E Zg.fn Zg.enc [1,1,1,0,1,0] { fr:=[(3,.lf (.box 0 0)),(7,.lf (.box 1 0)),(20,.lf (.sl (.int .i64) x20)),(21,.lf (.int .i64 x21)),(22,.lf (.int .i64 x22))],ob:=[(0,.box 29 false [.int .i64 b0_0,.sl (.int .i64) b0_1]),(1,.box 2 false [.int .i64 b1_0])],nx:=2 }
theorem Zg.f_eq (l0_0:List (List Int)) (a1_0:Int) (l1_1:List Int):Zg.f l0_0 a1_0 l1_1=(ZC.f l0_0 ([(a1_0,l1_1)]:List (Int×(List Int)))).bind fun t13=>if t13=0 then(Zg.l0 l1_1 (l1_1.length:Int) 0 a1_0 l1_1 a1_0)else(some (([]:List Int),t13)):=by kernel_rfl
theorem Zg.l0_eq (x20:List Int) (x21:Int) (x22:Int) (b0_0:Int) (b0_1:List Int) (b1_0:Int):Zg.l0 x20 x21 x22 b0_0 b0_1 b1_0=if x22 < x21 then(if 0≤x22 then(if x22 < (x20.length:Int)then((Zbc.f b1_0 (wrapI ((rd x20 x22) - 1))).bind fun t29=>Zg.l0 x20 x21 (wrapI (x22+1)) b0_0 b0_1 t29)else none)else none)else((ZQ.f b0_0).bind fun t33=>(Zd.f t33 (fun z0=>(ZD.f z0 b1_0).map fun z=>z)).bind fun t35=>some (t35,0)):=(Zt _ _ _ _).trans (by kernel_rfl)
noncomputable def Zg.con:Con:=⟨Zg.fn.ins,Zg.fn.outs,(List Int)×Int,fun x=>Zg.f x.1 x.2.1 x.2.2.1,fun r=>((r.1,r.2,()),(()))⟩
theorem Zg.valid:Valid Tryz.prog 65 Zg.con:=fnV Zg.fn Zg.E Zg.enc ⟨ttOk,(Ze ZC.valid (Ze Zbc.valid (Ze ZQ.valid (Ze Zd.valid (Ze ZD.valid Zap)))))⟩ Tryz.func65
end Go.Proofs.YthmcpmnhdbeahaaGreat.P
namespace Go.Proofs.YthmcpmnhdbeahaaGreat.P
open Go Go.RowKit Go.Proofs.YthmcpmnhdbeahaaGreat.D
noncomputable def ZJ.E:Env:={ tt:=TT,con:=[(149,ZG.con),(151,Zav.con),(150,ZE.con)],frz:=[],rows:=[9],live:=[],n:=19,pin:=0,nils:=[] }
noncomputable def ZJ.fn:D.Fn:={ body:=Tryz.f66.body.getD .skip,res:=Tryz.f66.results.toList,ins:=[.agg [.v (.sl 27 (.sl 2 (.int .i64)))],.agg [.v (.int .i64),.v (.sl 2 (.int .i64))]],outs:=[.one (.own 2 true (.int .i64)),.one (.v (.int .i64))] }
def ZJ.enc (y:lsd (flats ZJ.fn.outs)×lsd (ios ZJ.fn.ins)):(List Int)×Int:=(y.1.1,y.1.2.1)
noncomputable def ZJ.f (l0_0:List (List Int)) (a1_0:Int) (l1_1:List Int):Option ((List Int)×Int):=denF ZJ.E ZJ.fn ZJ.enc (l0_0,a1_0,l1_1,())
theorem ZJ.f_eq (l0_0:List (List Int)) (a1_0:Int) (l1_1:List Int):ZJ.f l0_0 a1_0 l1_1=(ZG.f l0_0 ([(a1_0,l1_1)]:List (Int×(List Int)))).bind fun t10=>if t10=0 then((Zav.f a1_0 l1_1).bind fun t15=>(ZE.f t15 a1_0).bind fun t18=>some (t18,0))else(some (([]:List Int),t10)):=by kernel_rfl
noncomputable def ZJ.con:Con:=⟨ZJ.fn.ins,ZJ.fn.outs,(List Int)×Int,fun x=>ZJ.f x.1 x.2.1 x.2.2.1,fun r=>((r.1,r.2,()),(()))⟩
theorem ZJ.valid:Valid Tryz.prog 66 ZJ.con:=fnV ZJ.fn ZJ.E ZJ.enc ⟨ttOk,(Ze ZG.valid (Ze Zav.valid (Ze ZE.valid Zap)))⟩ Tryz.func66
end Go.Proofs.YthmcpmnhdbeahaaGreat.P
namespace Go.Proofs.YthmcpmnhdbeahaaGreat.P
open Go Go.RowKit Go.Proofs.YthmcpmnhdbeahaaGreat.D
noncomputable def ZaL.E:Env:={ tt:=TT,con:=[(107,ZC.con)],frz:=[],rows:=[12],live:=[(6,[3,7,18,19,20])],n:=32,pin:=0,nils:=[] }
noncomputable def ZaL.fn:D.Fn:={ body:=Tryz.f67.body.getD .skip,res:=Tryz.f67.results.toList,ins:=[.agg [.v (.sl 27 (.sl 2 (.int .i64)))],.agg [.v (.int .i64),.v (.sl 2 (.int .i64))]],outs:=[.one (.v (.int .i64)),.one (.v (.int .i64))] }
def ZaL.enc (y:lsd (flats ZaL.fn.outs)×lsd (ios ZaL.fn.ins)):Int×Int:=(y.1.1,y.1.2.1)
noncomputable def ZaL.f (l0_0:List (List Int)) (a1_0:Int) (l1_1:List Int):Option (Int×Int):=denF ZaL.E ZaL.fn ZaL.enc (l0_0,a1_0,l1_1,())
noncomputable def ZaL.l0 (x7:Int) (x18:List Int) (x19:Int) (x20:Int) (b0_0:Int) (b0_1:List Int):Option (Int×Int):=denAt ZaL.E ZaL.fn ZaL.enc [1,1,1,0,1,0] { fr:=[(3,.lf (.box 0 0)),(7,.lf (.int .i64 x7)),(18,.lf (.sl (.int .i64) x18)),(19,.lf (.int .i64 x19)),(20,.lf (.int .i64 x20))],ob:=[(0,.box 29 false [.int .i64 b0_0,.sl (.int .i64) b0_1])],nx:=1 }
theorem ZaL.f_eq (l0_0:List (List Int)) (a1_0:Int) (l1_1:List Int):ZaL.f l0_0 a1_0 l1_1=(ZC.f l0_0 ([(a1_0,l1_1)]:List (Int×(List Int)))).bind fun t13=>if t13=0 then(ZaL.l0 0 l1_1 (l1_1.length:Int) 0 a1_0 l1_1)else(some (0,t13)):=by kernel_rfl
theorem ZaL.l0_eq (x7:Int) (x18:List Int) (x19:Int) (x20:Int) (b0_0:Int) (b0_1:List Int):ZaL.l0 x7 x18 x19 x20 b0_0 b0_1=if x20 < x19 then(if 0≤x20 then(if x20 < (x18.length:Int)then(ZaL.l0 (wrapI (x7+(rd x18 x20))) x18 x19 (wrapI (x20+1)) b0_0 b0_1)else none)else none)else(if b0_0=0 then none else(some ((x7:Int).tmod b0_0,0))):=(Zt _ _ _ _).trans (by kernel_rfl)
noncomputable def ZaL.con:Con:=⟨ZaL.fn.ins,ZaL.fn.outs,Int×Int,fun x=>ZaL.f x.1 x.2.1 x.2.2.1,fun r=>((r.1,r.2,()),(()))⟩
theorem ZaL.valid:Valid Tryz.prog 67 ZaL.con:=fnV ZaL.fn ZaL.E ZaL.enc ⟨ttOk,(Ze ZC.valid Zap)⟩ Tryz.func67
end Go.Proofs.YthmcpmnhdbeahaaGreat.P
namespace Go.Proofs.YthmcpmnhdbeahaaGreat.P
open Go Go.RowKit Go.Proofs.YthmcpmnhdbeahaaGreat.D
noncomputable def ZaM.E:Env:={ tt:=TT,con:=[(149,ZG.con)],frz:=[],rows:=[11],live:=[(6,[3,7,8])],n:=34,pin:=0,nils:=[] }
noncomputable def ZaM.fn:D.Fn:={ body:=Tryz.f68.body.getD .skip,res:=Tryz.f68.results.toList,ins:=[.agg [.v (.sl 27 (.sl 2 (.int .i64)))],.agg [.v (.int .i64),.v (.sl 2 (.int .i64))]],outs:=[.one (.v (.int .i64)),.one (.v (.int .i64))] }
def ZaM.enc (y:lsd (flats ZaM.fn.outs)×lsd (ios ZaM.fn.ins)):Int×Int:=(y.1.1,y.1.2.1)
noncomputable def ZaM.f (l0_0:List (List Int)) (a1_0:Int) (l1_1:List Int):Option (Int×Int):=denF ZaM.E ZaM.fn ZaM.enc (l0_0,a1_0,l1_1,())
noncomputable def ZaM.l0 (x7:Int) (x8:Int) (b0_0:Int) (b0_1:List Int):Option (Int×Int):=denAt ZaM.E ZaM.fn ZaM.enc [1,1,1,0,1,0] { fr:=[(3,.lf (.box 0 0)),(7,.lf (.int .i64 x7)),(8,.lf (.int .i64 x8))],ob:=[(0,.box 29 false [.int .i64 b0_0,.sl (.int .i64) b0_1])],nx:=1 }
theorem ZaM.f_eq (l0_0:List (List Int)) (a1_0:Int) (l1_1:List Int):ZaM.f l0_0 a1_0 l1_1=(ZG.f l0_0 ([(a1_0,l1_1)]:List (Int×(List Int)))).bind fun t12=>if t12=0 then(ZaM.l0 0 0 a1_0 l1_1)else(some (0,t12)):=by kernel_rfl
theorem ZaM.l0_eq (x7:Int) (x8:Int) (b0_0:Int) (b0_1:List Int):ZaM.l0 x7 x8 b0_0 b0_1=if x8 < (b0_1.length:Int)then(if 0≤x8 then(if x8 < (b0_1.length:Int)then(if b0_0=0 then none else(ZaM.l0 ((wrapI (x7+(rd b0_1 x8)):Int).tmod b0_0) (wrapI (x8+1)) b0_0 b0_1))else none)else none)else(some (x7,0)):=(Zt _ _ _ _).trans (by kernel_rfl)
noncomputable def ZaM.con:Con:=⟨ZaM.fn.ins,ZaM.fn.outs,Int×Int,fun x=>ZaM.f x.1 x.2.1 x.2.2.1,fun r=>((r.1,r.2,()),(()))⟩
theorem ZaM.valid:Valid Tryz.prog 68 ZaM.con:=fnV ZaM.fn ZaM.E ZaM.enc ⟨ttOk,(Ze ZG.valid Zap)⟩ Tryz.func68
end Go.Proofs.YthmcpmnhdbeahaaGreat.P
namespace Go.Proofs.YthmcpmnhdbeahaaGreat.P
open Go Go.RowKit Go.Proofs.YthmcpmnhdbeahaaGreat.D
noncomputable def Zah.E:Env:={ tt:=TT,con:=[],frz:=[],rows:=[],live:=[],n:=8,pin:=0,nils:=[] }
noncomputable def Zah.fn:D.Fn:={ body:=Tryz.f188.body.getD .skip,res:=Tryz.f188.results.toList,ins:=[.one (.v (.int .i64)),.ptr true 100 [.fn [(.int .i64)] .bool]],outs:=[.one (.v .bool)] }
def Zah.enc (y:lsd (flats Zah.fn.outs)×lsd (ios Zah.fn.ins)):Bool:=y.1.1
noncomputable def Zah.f (a0:Int) (f1:Int→Option Bool):Option Bool:=denF Zah.E Zah.fn Zah.enc (a0,fun x=>f1 x.1,())
theorem Zah.f_eq (a0:Int) (f1:Int→Option Bool):Zah.f a0 f1=(f1 a0).bind fun t6=>some (!decide (t6=true)):=by kernel_rfl
noncomputable def Zah.con:Con:=⟨Zah.fn.ins,Zah.fn.outs,Bool,fun x=>Zah.f x.1 (fun z0=>x.2.1 (z0,())),fun r=>((r,()),(()))⟩
theorem Zah.valid:Valid Tryz.prog 188 Zah.con:=fnV Zah.fn Zah.E Zah.enc ⟨ttOk,Zap⟩ Tryz.func188
end Go.Proofs.YthmcpmnhdbeahaaGreat.P
namespace Go.Proofs.YthmcpmnhdbeahaaGreat.P
open Go Go.RowKit Go.Proofs.YthmcpmnhdbeahaaGreat.D
noncomputable def ZaC.E:Env:={ tt:=TT,con:=[(139,Z7.con),(138,ZQ.con),(145,Zd.con),(188,Zah.con)],frz:=[],rows:=[],live:=[],n:=10,pin:=0,nils:=[] }
noncomputable def ZaC.fn:D.Fn:={ body:=Tryz.f120.body.getD .skip,res:=Tryz.f120.results.toList,ins:=[.agg [.v (.sl 27 (.sl 2 (.int .i64)))],.one (.fn [(.int .i64)] .bool)],outs:=[.one (.own 2 true (.int .i64))] }
def ZaC.enc (y:lsd (flats ZaC.fn.outs)×lsd (ios ZaC.fn.ins)):(List Int):=y.1.1
noncomputable def ZaC.f (l0_0:List (List Int)) (f1:Int→Option Bool):Option (List Int):=denF ZaC.E ZaC.fn ZaC.enc (l0_0,fun x=>f1 x.1,())
theorem ZaC.f_eq (l0_0:List (List Int)) (f1:Int→Option Bool):ZaC.f l0_0 f1=(Z7.f l0_0).bind fun t6=>(ZQ.f t6).bind fun t7=>(Zd.f t7 (fun z0=>(Zah.f z0 (fun u0=>(f1 u0).map fun z=>z)).map fun z=>z)).bind fun t9=>some t9:=by kernel_rfl
noncomputable def ZaC.con:Con:=⟨ZaC.fn.ins,ZaC.fn.outs,(List Int),fun x=>ZaC.f x.1 (fun z0=>x.2.1 (z0,())),fun r=>((r,()),(()))⟩
theorem ZaC.valid:Valid Tryz.prog 120 ZaC.con:=fnV ZaC.fn ZaC.E ZaC.enc ⟨ttOk,(Ze Z7.valid (Ze ZQ.valid (Ze Zd.valid (Ze Zah.valid Zap))))⟩ Tryz.func120
end Go.Proofs.YthmcpmnhdbeahaaGreat.P
namespace Go.Proofs.YthmcpmnhdbeahaaGreat.P
open Go Go.RowKit Go.Proofs.YthmcpmnhdbeahaaGreat.D
noncomputable def ZaI.E:Env:={ tt:=TT,con:=[],frz:=[],rows:=[],live:=[],n:=10,pin:=0,nils:=[] }
noncomputable def ZaI.fn:D.Fn:={ body:=Tryz.f154.body.getD .skip,res:=Tryz.f154.results.toList,ins:=[.one (.v (.int .i64)),.ptr true 29 [.v (.int .i64),.v (.sl 2 (.int .i64))]],outs:=[.one (.v .bool)] }
def ZaI.enc (y:lsd (flats ZaI.fn.outs)×lsd (ios ZaI.fn.ins)):Bool:=y.1.1
noncomputable def ZaI.f (a0:Int) (a1_0:Int) (l1_1:List Int):Option Bool:=denF ZaI.E ZaI.fn ZaI.enc (a0,a1_0,l1_1,())
theorem ZaI.f_eq (a0:Int) (a1_0:Int) (l1_1:List Int):ZaI.f a0 a1_0 l1_1=if 0≤a0 then(if a0 < (l1_1.length:Int)then(some (decide ((rd l1_1 a0)=1)))else none)else none:=by kernel_rfl
noncomputable def ZaI.con:Con:=⟨ZaI.fn.ins,ZaI.fn.outs,Bool,fun x=>ZaI.f x.1 x.2.1 x.2.2.1,fun r=>((r,()),(()))⟩
theorem ZaI.valid:Valid Tryz.prog 154 ZaI.con:=fnV ZaI.fn ZaI.E ZaI.enc ⟨ttOk,Zap⟩ Tryz.func154
end Go.Proofs.YthmcpmnhdbeahaaGreat.P
namespace Go.Proofs.YthmcpmnhdbeahaaGreat.P
open Go Go.RowKit Go.Proofs.YthmcpmnhdbeahaaGreat.D
noncomputable def ZaV.E:Env:={ tt:=TT,con:=[(107,ZC.con),(120,ZaC.con),(154,ZaI.con)],frz:=[],rows:=[9],live:=[],n:=17,pin:=0,nils:=[] }
noncomputable def ZaV.fn:D.Fn:={ body:=Tryz.f69.body.getD .skip,res:=Tryz.f69.results.toList,ins:=[.agg [.v (.sl 27 (.sl 2 (.int .i64)))],.agg [.v (.int .i64),.v (.sl 2 (.int .i64))]],outs:=[.one (.own 2 true (.int .i64)),.one (.v (.int .i64))] }
def ZaV.enc (y:lsd (flats ZaV.fn.outs)×lsd (ios ZaV.fn.ins)):(List Int)×Int:=(y.1.1,y.1.2.1)
noncomputable def ZaV.f (l0_0:List (List Int)) (a1_0:Int) (l1_1:List Int):Option ((List Int)×Int):=denF ZaV.E ZaV.fn ZaV.enc (l0_0,a1_0,l1_1,())
theorem ZaV.f_eq (l0_0:List (List Int)) (a1_0:Int) (l1_1:List Int):ZaV.f l0_0 a1_0 l1_1=(ZC.f l0_0 ([(a1_0,l1_1)]:List (Int×(List Int)))).bind fun t10=>if t10=0 then((ZaC.f l0_0 (fun z0=>(ZaI.f z0 a1_0 l1_1).map fun z=>z)).bind fun t16=>some (t16,0))else(some (([]:List Int),t10)):=by kernel_rfl
noncomputable def ZaV.con:Con:=⟨ZaV.fn.ins,ZaV.fn.outs,(List Int)×Int,fun x=>ZaV.f x.1 x.2.1 x.2.2.1,fun r=>((r.1,r.2,()),(()))⟩
theorem ZaV.valid:Valid Tryz.prog 69 ZaV.con:=fnV ZaV.fn ZaV.E ZaV.enc ⟨ttOk,(Ze ZC.valid (Ze ZaC.valid (Ze ZaI.valid Zap)))⟩ Tryz.func69
end Go.Proofs.YthmcpmnhdbeahaaGreat.P
namespace Go.Proofs.YthmcpmnhdbeahaaGreat.P
open Go Go.RowKit Go.Proofs.YthmcpmnhdbeahaaGreat.D
noncomputable def Zai.E:Env:={ tt:=TT,con:=[(149,ZG.con)],frz:=[],rows:=[11],live:=[(6,[3,7,8])],n:=35,pin:=0,nils:=[] }
noncomputable def Zai.fn:D.Fn:={ body:=Tryz.f70.body.getD .skip,res:=Tryz.f70.results.toList,ins:=[.agg [.v (.sl 27 (.sl 2 (.int .i64)))],.agg [.v (.int .i64),.v (.sl 2 (.int .i64))]],outs:=[.one (.own 2 true (.int .i64)),.one (.v (.int .i64))] }
def Zai.enc (y:lsd (flats Zai.fn.outs)×lsd (ios Zai.fn.ins)):(List Int)×Int:=(y.1.1,y.1.2.1)
noncomputable def Zai.f (l0_0:List (List Int)) (a1_0:Int) (l1_1:List Int):Option ((List Int)×Int):=denF Zai.E Zai.fn Zai.enc (l0_0,a1_0,l1_1,())
noncomputable def Zai.l0 (x8:Int) (b0_0:Int) (b0_1:List Int) (r1:List Int):Option ((List Int)×Int):=denAt Zai.E Zai.fn Zai.enc [1,1,1,0,1,0] { fr:=[(3,.lf (.box 0 0)),(7,.lf (.own 1)),(8,.lf (.int .i64 x8))],ob:=[(0,.box 29 false [.int .i64 b0_0,.sl (.int .i64) b0_1]),(1,.row 2 true (.int .i64) r1)],nx:=2 }
theorem Zai.f_eq (l0_0:List (List Int)) (a1_0:Int) (l1_1:List Int):Zai.f l0_0 a1_0 l1_1=(ZG.f l0_0 ([(a1_0,l1_1)]:List (Int×(List Int)))).bind fun t12=>if t12=0 then(Zai.l0 0 a1_0 l1_1 ([]:List Int))else(some (([]:List Int),t12)):=by kernel_rfl
theorem Zai.l0_eq (x8:Int) (b0_0:Int) (b0_1:List Int) (r1:List Int):Zai.l0 x8 b0_0 b0_1 r1=if x8 < (b0_1.length:Int)then(if 0≤x8 then(if x8 < (b0_1.length:Int)then(if(rd b0_1 x8)=1 then(if r1.length+([x8]:List Int).length≤17592186044416 then(Zai.l0 (wrapI (x8+1)) b0_0 b0_1 (r1++([x8]:List Int)))else none)else(Zai.l0 (wrapI (x8+1)) b0_0 b0_1 r1))else none)else none)else(some (r1,0)):=(Zt _ _ _ _).trans (by kernel_rfl)
noncomputable def Zai.con:Con:=⟨Zai.fn.ins,Zai.fn.outs,(List Int)×Int,fun x=>Zai.f x.1 x.2.1 x.2.2.1,fun r=>((r.1,r.2,()),(()))⟩
theorem Zai.valid:Valid Tryz.prog 70 Zai.con:=fnV Zai.fn Zai.E Zai.enc ⟨ttOk,(Ze ZG.valid Zap)⟩ Tryz.func70
end Go.Proofs.YthmcpmnhdbeahaaGreat.P
namespace Go.Proofs.YthmcpmnhdbeahaaGreat.P
open Go Go.RowKit Go.Proofs.YthmcpmnhdbeahaaGreat.D
noncomputable def Zar.E:Env:={ tt:=TT,con:=[(139,Z7.con)],frz:=[],rows:=[],live:=[(3,[2,6,7,12,13])],n:=26,pin:=0,nils:=[6,7,10] }
noncomputable def Zar.fn:D.Fn:={ body:=Tryz.f155.body.getD .skip,res:=Tryz.f155.results.toList,ins:=[.agg [.v (.sl 27 (.sl 2 (.int .i64)))],.one (.v (.int .i64)),.one (.fn [(.int .i64)] (.int .i64))],outs:=[.agg [.v (.int .i64),.own 2 true (.int .i64)]] }
def Zar.enc (y:lsd (flats Zar.fn.outs)×lsd (ios Zar.fn.ins)):Int×(List Int):=(y.1.1,y.1.2.1)
noncomputable def Zar.f (l0_0:List (List Int)) (a1:Int) (f2:Int→Option Int):Option (Int×(List Int)):=denF Zar.E Zar.fn Zar.enc (l0_0,a1,fun x=>f2 x.1,())
noncomputable def Zar.l0 (fx2:Int→Option Int) (x12:Int) (x13:Int) (b0_0:Int) (b1_0:Int) (r2:List Int) (r3:List Int):Option (Int×(List Int)):=denAt Zar.E Zar.fn Zar.enc [1,1,0,1,0] { fr:=[(2,.lf (.fn [(.int .i64)] (.int .i64) (fun x=>fx2 x.1))),(6,.lf (.box 0 0)),(7,.lf (.box 1 0)),(12,.lf (.int .i64 x12)),(13,.lf (.int .i64 x13))],ob:=[(0,.box 29 false [.int .i64 b0_0,.own 2]),(1,.box 29 false [.int .i64 b1_0,.own 3]),(2,.row 2 true (.int .i64) r2),(3,.row 2 true (.int .i64) r3)],nx:=4 }
theorem Zar.f_eq (l0_0:List (List Int)) (a1:Int) (f2:Int→Option Int):Zar.f l0_0 a1 f2=(Z7.f l0_0).bind fun t12=>Zar.l0 f2 t12 0 0 a1 ([]:List Int) ([]:List Int):=by kernel_rfl
theorem Zar.l0_eq (fx2:Int→Option Int) (x12:Int) (x13:Int) (b0_0:Int) (b1_0:Int) (r2:List Int) (r3:List Int):Zar.l0 fx2 x12 x13 b0_0 b1_0 r2 r3=if x13 < x12 then((fx2 x13).bind fun t20=>if r3.length+([t20]:List Int).length≤17592186044416 then(Zar.l0 fx2 x12 (wrapI (x13+1)) b0_0 b1_0 r2 (r3++([t20]:List Int)))else none)else(some (b1_0,r3)):=(Zt _ _ _ _).trans (by kernel_rfl)
noncomputable def Zar.con:Con:=⟨Zar.fn.ins,Zar.fn.outs,Int×(List Int),fun x=>Zar.f x.1 x.2.1 (fun z0=>x.2.2.1 (z0,())),fun r=>((r.1,r.2,()),(()))⟩
theorem Zar.valid:Valid Tryz.prog 155 Zar.con:=fnV Zar.fn Zar.E Zar.enc ⟨ttOk,(Ze Z7.valid Zap)⟩ Tryz.func155
end Go.Proofs.YthmcpmnhdbeahaaGreat.P
namespace Go.Proofs.YthmcpmnhdbeahaaGreat.P
open Go Go.RowKit Go.Proofs.YthmcpmnhdbeahaaGreat.D
noncomputable def Zaf.E:Env:={ tt:=TT,con:=[(173,Zn.con)],frz:=[],rows:=[],live:=[],n:=11,pin:=0,nils:=[] }
noncomputable def Zaf.fn:D.Fn:={ body:=Tryz.f87.body.getD .skip,res:=Tryz.f87.results.toList,ins:=[.agg [.v (.sl 27 (.sl 2 (.int .i64)))],.one (.v (.int .i64))],outs:=[.one (.v (.int .i64))] }
def Zaf.enc (y:lsd (flats Zaf.fn.outs)×lsd (ios Zaf.fn.ins)):Int:=y.1.1
noncomputable def Zaf.f (l0_0:List (List Int)) (a1:Int):Option Int:=denF Zaf.E Zaf.fn Zaf.enc (l0_0,a1,())
theorem Zaf.f_eq (l0_0:List (List Int)) (a1:Int):Zaf.f l0_0 a1=if 0≤a1 then(if a1 < (l0_0.length:Int)then((Zn.f (row l0_0 a1) 0).bind fun t10=>some t10)else none)else none:=by kernel_rfl
noncomputable def Zaf.con:Con:=⟨Zaf.fn.ins,Zaf.fn.outs,Int,fun x=>Zaf.f x.1 x.2.1,fun r=>((r,()),(()))⟩
theorem Zaf.valid:Valid Tryz.prog 87 Zaf.con:=fnV Zaf.fn Zaf.E Zaf.enc ⟨ttOk,(Ze Zn.valid Zap)⟩ Tryz.func87
end Go.Proofs.YthmcpmnhdbeahaaGreat.P
namespace Go.Proofs.YthmcpmnhdbeahaaGreat.P
open Go Go.RowKit Go.Proofs.YthmcpmnhdbeahaaGreat.D
noncomputable def Zao.E:Env:={ tt:=TT,con:=[(87,Zaf.con)],frz:=[],rows:=[],live:=[],n:=12,pin:=0,nils:=[] }
noncomputable def Zao.fn:D.Fn:={ body:=Tryz.f156.body.getD .skip,res:=Tryz.f156.results.toList,ins:=[.one (.v (.int .i64)),.ptr true 29 [.v (.int .i64),.v (.sl 2 (.int .i64))],.ptr true 26 [.v (.sl 27 (.sl 2 (.int .i64)))]],outs:=[.one (.v (.int .i64))] }
def Zao.enc (y:lsd (flats Zao.fn.outs)×lsd (ios Zao.fn.ins)):Int:=y.1.1
noncomputable def Zao.f (a0:Int) (a1_0:Int) (l1_1:List Int) (l2:List (List Int)):Option Int:=denF Zao.E Zao.fn Zao.enc (a0,a1_0,l1_1,l2,())
theorem Zao.f_eq (a0:Int) (a1_0:Int) (l1_1:List Int) (l2:List (List Int)):Zao.f a0 a1_0 l1_1 l2=(Zaf.f l2 a0).bind fun t9=>if 0≤t9 then(if t9 < (l1_1.length:Int)then(some (rd l1_1 t9))else none)else none:=by kernel_rfl
noncomputable def Zao.con:Con:=⟨Zao.fn.ins,Zao.fn.outs,Int,fun x=>Zao.f x.1 x.2.1 x.2.2.1 x.2.2.2.1,fun r=>((r,()),(()))⟩
theorem Zao.valid:Valid Tryz.prog 156 Zao.con:=fnV Zao.fn Zao.E Zao.enc ⟨ttOk,(Ze Zaf.valid Zap)⟩ Tryz.func156
end Go.Proofs.YthmcpmnhdbeahaaGreat.P
namespace Go.Proofs.YthmcpmnhdbeahaaGreat.P
open Go Go.RowKit Go.Proofs.YthmcpmnhdbeahaaGreat.D
noncomputable def Zan.E:Env:={ tt:=TT,con:=[(107,ZC.con),(155,Zar.con),(156,Zao.con)],frz:=[],rows:=[9],live:=[],n:=20,pin:=0,nils:=[] }
noncomputable def Zan.fn:D.Fn:={ body:=Tryz.f71.body.getD .skip,res:=Tryz.f71.results.toList,ins:=[.agg [.v (.sl 27 (.sl 2 (.int .i64)))],.agg [.v (.int .i64),.v (.sl 2 (.int .i64))]],outs:=[.agg [.v (.int .i64),.own 2 true (.int .i64)],.one (.v (.int .i64))] }
def Zan.enc (y:lsd (flats Zan.fn.outs)×lsd (ios Zan.fn.ins)):Int×(List Int)×Int:=(y.1.1,y.1.2.1,y.1.2.2.1)
noncomputable def Zan.f (l0_0:List (List Int)) (a1_0:Int) (l1_1:List Int):Option (Int×(List Int)×Int):=denF Zan.E Zan.fn Zan.enc (l0_0,a1_0,l1_1,())
theorem Zan.f_eq (l0_0:List (List Int)) (a1_0:Int) (l1_1:List Int):Zan.f l0_0 a1_0 l1_1=(ZC.f l0_0 ([(a1_0,l1_1)]:List (Int×(List Int)))).bind fun t10=>if t10=0 then((Zar.f l0_0 a1_0 (fun z0=>(Zao.f z0 a1_0 l1_1 l0_0).map fun z=>z)).bind fun t19=>some (t19.1,t19.2,0))else(some (0,([]:List Int),t10)):=by kernel_rfl
noncomputable def Zan.con:Con:=⟨Zan.fn.ins,Zan.fn.outs,Int×(List Int)×Int,fun x=>Zan.f x.1 x.2.1 x.2.2.1,fun r=>((r.1,r.2.1,r.2.2,()),(()))⟩
theorem Zan.valid:Valid Tryz.prog 71 Zan.con:=fnV Zan.fn Zan.E Zan.enc ⟨ttOk,(Ze ZC.valid (Ze Zar.valid (Ze Zao.valid Zap)))⟩ Tryz.func71
end Go.Proofs.YthmcpmnhdbeahaaGreat.P
namespace Go.Proofs.YthmcpmnhdbeahaaGreat.P
open Go Go.RowKit Go.Proofs.YthmcpmnhdbeahaaGreat.D
noncomputable def ZU.E:Env:={ tt:=TT,con:=[(91,Zay.con)],frz:=[],rows:=[],live:=[(2,[1,2,5])],n:=22,pin:=0,nils:=[] }
noncomputable def ZU.fn:D.Fn:={ body:=Tryz.f105.body.getD .skip,res:=Tryz.f105.results.toList,ins:=[.agg [.v (.sl 27 (.sl 2 (.int .i64)))],.one (.v (.int .i64))],outs:=[.one (.v (.int .i64))] }
def ZU.enc (y:lsd (flats ZU.fn.outs)×lsd (ios ZU.fn.ins)):Int:=y.1.1
noncomputable def ZU.f (l0_0:List (List Int)) (a1:Int):Option Int:=denF ZU.E ZU.fn ZU.enc (l0_0,a1,())
noncomputable def ZU.l0 (x1:Int) (x5:Int) (b0_0:List (List Int)):Option Int:=denAt ZU.E ZU.fn ZU.enc [1,0,1,0] { fr:=[(1,.lf (.int .i64 x1)),(2,.lf (.box 0 0)),(5,.lf (.int .i64 x5))],ob:=[(0,.box 26 false [.sl (.sl 2 (.int .i64)) b0_0])],nx:=1 }
theorem ZU.f_eq (l0_0:List (List Int)) (a1:Int):ZU.f l0_0 a1=ZU.l0 a1 0 l0_0:=by kernel_rfl
theorem ZU.l0_eq (x1:Int) (x5:Int) (b0_0:List (List Int)):ZU.l0 x1 x5 b0_0=(Zay.f b0_0).bind fun t8=>if x5 < t8 then(if 0≤x1 then(if x1 < (b0_0.length:Int)then(if 0≤x5 then(if x5 < ((row b0_0 x1).length:Int)then(if(T b0_0 x1 x5)=0 then(some x5)else(ZU.l0 x1 (wrapI (x5+1)) b0_0))else none)else none)else none)else none)else(some 0):=(Zt _ _ _ _).trans (by kernel_rfl)
noncomputable def ZU.con:Con:=⟨ZU.fn.ins,ZU.fn.outs,Int,fun x=>ZU.f x.1 x.2.1,fun r=>((r,()),(()))⟩
theorem ZU.valid:Valid Tryz.prog 105 ZU.con:=fnV ZU.fn ZU.E ZU.enc ⟨ttOk,(Ze Zay.valid Zap)⟩ Tryz.func105
end Go.Proofs.YthmcpmnhdbeahaaGreat.P
namespace Go.Proofs.YthmcpmnhdbeahaaGreat.P
open Go Go.RowKit Go.Proofs.YthmcpmnhdbeahaaGreat.D
noncomputable def ZT.E:Env:={ tt:=TT,con:=[(149,ZG.con),(105,ZU.con)],frz:=[],rows:=[11],live:=[(6,[2,3,4,7,8])],n:=41,pin:=0,nils:=[] }
noncomputable def ZT.fn:D.Fn:={ body:=Tryz.f72.body.getD .skip,res:=Tryz.f72.results.toList,ins:=[.agg [.v (.sl 27 (.sl 2 (.int .i64)))],.agg [.v (.int .i64),.v (.sl 2 (.int .i64))]],outs:=[.agg [.v (.int .i64),.own 2 true (.int .i64)],.one (.v (.int .i64))] }
def ZT.enc (y:lsd (flats ZT.fn.outs)×lsd (ios ZT.fn.ins)):Int×(List Int)×Int:=(y.1.1,y.1.2.1,y.1.2.2.1)
noncomputable def ZT.f (l0_0:List (List Int)) (a1_0:Int) (l1_1:List Int):Option (Int×(List Int)×Int):=denF ZT.E ZT.fn ZT.enc (l0_0,a1_0,l1_1,())
noncomputable def ZT.l0 (x8:Int) (b0_0:List (List Int)) (b1_0:Int) (b1_1:List Int) (b2_0:Int) (b3_0:Int) (r4:List Int):Option (Int×(List Int)×Int):=denAt ZT.E ZT.fn ZT.enc [1,1,1,0,1,0] { fr:=[(2,.lf (.box 0 0)),(3,.lf (.box 1 0)),(4,.lf (.box 2 0)),(7,.lf (.box 3 0)),(8,.lf (.int .i64 x8))],ob:=[(0,.box 26 false [.sl (.sl 2 (.int .i64)) b0_0]),(1,.box 29 false [.int .i64 b1_0,.sl (.int .i64) b1_1]),(2,.box 29 false [.int .i64 b2_0,.nil]),(3,.box 29 false [.int .i64 b3_0,.own 4]),(4,.row 2 true (.int .i64) r4)],nx:=5 }
theorem ZT.f_eq (l0_0:List (List Int)) (a1_0:Int) (l1_1:List Int):ZT.f l0_0 a1_0 l1_1=(ZG.f l0_0 ([(a1_0,l1_1)]:List (Int×(List Int)))).bind fun t12=>if t12=0 then(ZT.l0 0 l0_0 a1_0 l1_1 0 a1_0 ([]:List Int))else(some (0,([]:List Int),t12)):=by kernel_rfl
theorem ZT.l0_eq (x8:Int) (b0_0:List (List Int)) (b1_0:Int) (b1_1:List Int) (b2_0:Int) (b3_0:Int) (r4:List Int):ZT.l0 x8 b0_0 b1_0 b1_1 b2_0 b3_0 r4=if x8 < (b1_1.length:Int)then((ZU.f b0_0 x8).bind fun t34=>if 0≤t34 then(if t34 < (b1_1.length:Int)then(if r4.length+([rd b1_1 t34]:List Int).length≤17592186044416 then(ZT.l0 (wrapI (x8+1)) b0_0 b1_0 b1_1 b2_0 b3_0 (r4++([rd b1_1 t34]:List Int)))else none)else none)else none)else(some (b3_0,r4,0)):=(Zt _ _ _ _).trans (by kernel_rfl)
noncomputable def ZT.con:Con:=⟨ZT.fn.ins,ZT.fn.outs,Int×(List Int)×Int,fun x=>ZT.f x.1 x.2.1 x.2.2.1,fun r=>((r.1,r.2.1,r.2.2,()),(()))⟩
theorem ZT.valid:Valid Tryz.prog 72 ZT.con:=fnV ZT.fn ZT.E ZT.enc ⟨ttOk,(Ze ZG.valid (Ze ZU.valid Zap))⟩ Tryz.func72
end Go.Proofs.YthmcpmnhdbeahaaGreat.P
namespace Go.Proofs.YthmcpmnhdbeahaaGreat.P
open Go Go.RowKit Go.Proofs.YthmcpmnhdbeahaaGreat.D
noncomputable def ZaP.E:Env:={ tt:=TT,con:=[(16,Z8.con)],frz:=[],rows:=[],live:=[],n:=17,pin:=0,nils:=[] }
noncomputable def ZaP.fn:D.Fn:={ body:=Tryz.f73.body.getD .skip,res:=Tryz.f73.results.toList,ins:=[.agg [.v (.int .i64),.v (.sl 2 (.int .i64))],.agg [.v (.int .i64),.v (.sl 2 (.int .i64))]],outs:=[.one (.v .bool)] }
def ZaP.enc (y:lsd (flats ZaP.fn.outs)×lsd (ios ZaP.fn.ins)):Bool:=y.1.1
noncomputable def ZaP.f (a0_0:Int) (l0_1:List Int) (a1_0:Int) (l1_1:List Int):Option Bool:=denF ZaP.E ZaP.fn ZaP.enc (a0_0,l0_1,a1_0,l1_1,())
theorem ZaP.f_eq (a0_0:Int) (l0_1:List Int) (a1_0:Int) (l1_1:List Int):ZaP.f a0_0 l0_1 a1_0 l1_1=if a0_0=a1_0 then((Z8.f l0_1 l1_1).bind fun t15=>some (decide (t15=true)))else(some false):=by kernel_rfl
noncomputable def ZaP.con:Con:=⟨ZaP.fn.ins,ZaP.fn.outs,Bool,fun x=>ZaP.f x.1 x.2.1 x.2.2.1 x.2.2.2.1,fun r=>((r,()),(()))⟩
theorem ZaP.valid:Valid Tryz.prog 73 ZaP.con:=fnV ZaP.fn ZaP.E ZaP.enc ⟨ttOk,(Ze Z8.valid Zap)⟩ Tryz.func73
end Go.Proofs.YthmcpmnhdbeahaaGreat.P
namespace Go.Proofs.YthmcpmnhdbeahaaGreat.P
open Go Go.RowKit Go.Proofs.YthmcpmnhdbeahaaGreat.D
noncomputable def Zbi.E:Env:={ tt:=TT,con:=[(100,Zau.con),(196,ZaT.con),(218,ZaE.con),(109,Zj.con),(103,Za5.con),(174,ZZ.con),(197,ZaG.con)],frz:=[11],rows:=[],live:=[],n:=39,pin:=0,nils:=[] }
noncomputable def Zbi.fn:D.Fn:={ body:=Tryz.f157.body.getD .skip,res:=Tryz.f157.results.toList,ins:=[.one (.v (.sl 5 (.int .u8)))],outs:=[.agg [.v (.sl 27 (.sl 2 (.int .i64)))],.agg [.v (.int .i64),.v (.sl 2 (.int .i64))],.agg [.v (.int .i64),.v (.sl 2 (.int .i64))]] }
def Zbi.enc (y:lsd (flats Zbi.fn.outs)×lsd (ios Zbi.fn.ins)):(List (List Int))×Int×(List Int)×Int×(List Int):=(y.1.1,y.1.2.1,y.1.2.2.1,y.1.2.2.2.1,y.1.2.2.2.2.1)
noncomputable def Zbi.f (l0:List Int):Option ((List (List Int))×Int×(List Int)×Int×(List Int)):=denF Zbi.E Zbi.fn Zbi.enc (l0,())
theorem Zbi.f_eq (l0:List Int):Zbi.f l0=(Zau.f l0).bind fun t9=>(ZaT.f t9.1 t9.2.1 t9.2.2).bind fun t11=>(ZaE.f t11.2.1 t11.2.2.1 t11.2.2.2 t11.1).bind fun t14=>(Zj.f t11.1).bind fun t16=>if t16=true then((Za5.f t14.1 2 12).bind fun t20=>if t20=true then((ZZ.f t14.2.2.1 t14.2.2.2.1 t14.2.2.2.2 2).bind fun t24=>if t24.1=0 then((ZaG.f t24.2.1 t24.2.2.1 t24.2.2.2 t11.1 t14.1).bind fun t33=>some (t11.1,t14.1,t14.2.1,t33.1,t33.2.1))else((ZaE.f t24.2.1 t24.2.2.1 t24.2.2.2 t11.1).bind fun t38=>some (t11.1,t14.1,t14.2.1,t38.1,t38.2.1)))else((ZaE.f t14.2.2.1 t14.2.2.2.1 t14.2.2.2.2 t11.1).bind fun t38=>some (t11.1,t14.1,t14.2.1,t38.1,t38.2.1)))else((ZaE.f t14.2.2.1 t14.2.2.2.1 t14.2.2.2.2 t11.1).bind fun t38=>some (t11.1,t14.1,t14.2.1,t38.1,t38.2.1)):=by kernel_rfl
noncomputable def Zbi.con:Con:=⟨Zbi.fn.ins,Zbi.fn.outs,(List (List Int))×Int×(List Int)×Int×(List Int),fun x=>Zbi.f x.1,fun r=>((r.1,r.2.1,r.2.2.1,r.2.2.2.1,r.2.2.2.2,()),(()))⟩
theorem Zbi.valid:Valid Tryz.prog 157 Zbi.con:=fnV Zbi.fn Zbi.E Zbi.enc ⟨ttOk,(Ze Zau.valid (Ze ZaT.valid (Ze ZaE.valid (Ze Zj.valid (Ze Za5.valid (Ze ZZ.valid (Ze ZaG.valid Zap)))))))⟩ Tryz.func157
end Go.Proofs.YthmcpmnhdbeahaaGreat.P
namespace Go.Proofs.YthmcpmnhdbeahaaGreat.P
open Go Go.RowKit Go.Proofs.YthmcpmnhdbeahaaGreat.D
noncomputable def ZN.E:Env:={ tt:=TT,con:=[(157,Zbi.con)],frz:=[],rows:=[],live:=[],n:=10,pin:=0,nils:=[] }
noncomputable def ZN.fn:D.Fn:={ body:=Tryz.f74.body.getD .skip,res:=Tryz.f74.results.toList,ins:=[.one (.v (.sl 5 (.int .u8)))],outs:=[.agg [.v (.sl 27 (.sl 2 (.int .i64)))],.agg [.v (.int .i64),.v (.sl 2 (.int .i64))],.agg [.v (.int .i64),.v (.sl 2 (.int .i64))]] }
def ZN.enc (y:lsd (flats ZN.fn.outs)×lsd (ios ZN.fn.ins)):(List (List Int))×Int×(List Int)×Int×(List Int):=(y.1.1,y.1.2.1,y.1.2.2.1,y.1.2.2.2.1,y.1.2.2.2.2.1)
noncomputable def ZN.f (l0:List Int):Option ((List (List Int))×Int×(List Int)×Int×(List Int)):=denF ZN.E ZN.fn ZN.enc (l0,())
theorem ZN.f_eq (l0:List Int):ZN.f l0=(Zbi.f l0).bind fun t6=>some (t6.1,t6.2.1,t6.2.2.1,t6.2.2.2.1,t6.2.2.2.2):=by kernel_rfl
noncomputable def ZN.con:Con:=⟨ZN.fn.ins,ZN.fn.outs,(List (List Int))×Int×(List Int)×Int×(List Int),fun x=>ZN.f x.1,fun r=>((r.1,r.2.1,r.2.2.1,r.2.2.2.1,r.2.2.2.2,()),(()))⟩
theorem ZN.valid:Valid Tryz.prog 74 ZN.con:=fnV ZN.fn ZN.E ZN.enc ⟨ttOk,(Ze Zbi.valid Zap)⟩ Tryz.func74
end Go.Proofs.YthmcpmnhdbeahaaGreat.P
namespace Go.Proofs.YthmcpmnhdbeahaaGreat.P
open Go Go.RowKit Go.Proofs.YthmcpmnhdbeahaaGreat.D
noncomputable def ZY.E:Env:={ tt:=TT,con:=[],frz:=[],rows:=[],live:=[],n:=19,pin:=0,nils:=[] }
noncomputable def ZY.fn:D.Fn:={ body:=Tryz.f220.body.getD .skip,res:=Tryz.f220.results.toList,ins:=[.one (.v (.int .i64)),.ptr true 29 [.v (.int .i64),.v (.sl 2 (.int .i64))],.ptr true 29 [.v (.int .i64),.v (.sl 2 (.int .i64))]],outs:=[.one (.v (.int .i64))] }
def ZY.enc (y:lsd (flats ZY.fn.outs)×lsd (ios ZY.fn.ins)):Int:=y.1.1
noncomputable def ZY.f (a0:Int) (a1_0:Int) (l1_1:List Int) (a2_0:Int) (l2_1:List Int):Option Int:=denF ZY.E ZY.fn ZY.enc (a0,a1_0,l1_1,a2_0,l2_1,())
theorem ZY.f_eq (a0:Int) (a1_0:Int) (l1_1:List Int) (a2_0:Int) (l2_1:List Int):ZY.f a0 a1_0 l1_1 a2_0 l2_1=if 0≤a0 then(if a0 < (l1_1.length:Int)then(if 0≤a0 then(if a0 < (l2_1.length:Int)then(if a1_0=0 then none else(some ((wrapI ((rd l1_1 a0)*(rd l2_1 a0)):Int).tmod a1_0)))else none)else none)else none)else none:=by kernel_rfl
noncomputable def ZY.con:Con:=⟨ZY.fn.ins,ZY.fn.outs,Int,fun x=>ZY.f x.1 x.2.1 x.2.2.1 x.2.2.2.1 x.2.2.2.2.1,fun r=>((r,()),(()))⟩
theorem ZY.valid:Valid Tryz.prog 220 ZY.con:=fnV ZY.fn ZY.E ZY.enc ⟨ttOk,Zap⟩ Tryz.func220
end Go.Proofs.YthmcpmnhdbeahaaGreat.P
namespace Go.Proofs.YthmcpmnhdbeahaaGreat.P
open Go Go.RowKit Go.Proofs.YthmcpmnhdbeahaaGreat.D
noncomputable def Zaq.E:Env:={ tt:=TT,con:=[(155,Zar.con),(220,ZY.con)],frz:=[],rows:=[],live:=[],n:=12,pin:=0,nils:=[] }
noncomputable def Zaq.fn:D.Fn:={ body:=Tryz.f158.body.getD .skip,res:=Tryz.f158.results.toList,ins:=[.agg [.v (.sl 27 (.sl 2 (.int .i64)))],.agg [.v (.int .i64),.v (.sl 2 (.int .i64))],.agg [.v (.int .i64),.v (.sl 2 (.int .i64))]],outs:=[.agg [.v (.int .i64),.own 2 true (.int .i64)]] }
def Zaq.enc (y:lsd (flats Zaq.fn.outs)×lsd (ios Zaq.fn.ins)):Int×(List Int):=(y.1.1,y.1.2.1)
noncomputable def Zaq.f (l0_0:List (List Int)) (a1_0:Int) (l1_1:List Int) (a2_0:Int) (l2_1:List Int):Option (Int×(List Int)):=denF Zaq.E Zaq.fn Zaq.enc (l0_0,a1_0,l1_1,a2_0,l2_1,())
theorem Zaq.f_eq (l0_0:List (List Int)) (a1_0:Int) (l1_1:List Int) (a2_0:Int) (l2_1:List Int):Zaq.f l0_0 a1_0 l1_1 a2_0 l2_1=(Zar.f l0_0 a1_0 (fun z0=>(ZY.f z0 a1_0 l1_1 a2_0 l2_1).map fun z=>z)).bind fun t11=>some (t11.1,t11.2):=by kernel_rfl
noncomputable def Zaq.con:Con:=⟨Zaq.fn.ins,Zaq.fn.outs,Int×(List Int),fun x=>Zaq.f x.1 x.2.1 x.2.2.1 x.2.2.2.1 x.2.2.2.2.1,fun r=>((r.1,r.2,()),(()))⟩
theorem Zaq.valid:Valid Tryz.prog 158 Zaq.con:=fnV Zaq.fn Zaq.E Zaq.enc ⟨ttOk,(Ze Zar.valid (Ze ZY.valid Zap))⟩ Tryz.func158
end Go.Proofs.YthmcpmnhdbeahaaGreat.P
namespace Go.Proofs.YthmcpmnhdbeahaaGreat.P
open Go Go.RowKit Go.Proofs.YthmcpmnhdbeahaaGreat.D
noncomputable def ZK.E:Env:={ tt:=TT,con:=[(107,ZC.con),(158,Zaq.con)],frz:=[],rows:=[12],live:=[],n:=28,pin:=0,nils:=[] }
noncomputable def ZK.fn:D.Fn:={ body:=Tryz.f75.body.getD .skip,res:=Tryz.f75.results.toList,ins:=[.agg [.v (.sl 27 (.sl 2 (.int .i64)))],.agg [.v (.int .i64),.v (.sl 2 (.int .i64))],.agg [.v (.int .i64),.v (.sl 2 (.int .i64))]],outs:=[.agg [.v (.int .i64),.own 2 true (.int .i64)],.one (.v (.int .i64))] }
def ZK.enc (y:lsd (flats ZK.fn.outs)×lsd (ios ZK.fn.ins)):Int×(List Int)×Int:=(y.1.1,y.1.2.1,y.1.2.2.1)
noncomputable def ZK.f (l0_0:List (List Int)) (a1_0:Int) (l1_1:List Int) (a2_0:Int) (l2_1:List Int):Option (Int×(List Int)×Int):=denF ZK.E ZK.fn ZK.enc (l0_0,a1_0,l1_1,a2_0,l2_1,())
theorem ZK.f_eq (l0_0:List (List Int)) (a1_0:Int) (l1_1:List Int) (a2_0:Int) (l2_1:List Int):ZK.f l0_0 a1_0 l1_1 a2_0 l2_1=(ZC.f l0_0 ([(a1_0,l1_1),(a2_0,l2_1)]:List (Int×(List Int)))).bind fun t13=>if t13=0 then(if a1_0=a2_0 then((Zaq.f l0_0 a1_0 l1_1 a2_0 l2_1).bind fun t27=>some (t27.1,t27.2,0))else(some (0,([]:List Int),5)))else(some (0,([]:List Int),t13)):=by kernel_rfl
noncomputable def ZK.con:Con:=⟨ZK.fn.ins,ZK.fn.outs,Int×(List Int)×Int,fun x=>ZK.f x.1 x.2.1 x.2.2.1 x.2.2.2.1 x.2.2.2.2.1,fun r=>((r.1,r.2.1,r.2.2,()),(()))⟩
theorem ZK.valid:Valid Tryz.prog 75 ZK.con:=fnV ZK.fn ZK.E ZK.enc ⟨ttOk,(Ze ZC.valid (Ze Zaq.valid Zap))⟩ Tryz.func75
end Go.Proofs.YthmcpmnhdbeahaaGreat.P
namespace Go.Proofs.YthmcpmnhdbeahaaGreat.P
open Go Go.RowKit Go.Proofs.YthmcpmnhdbeahaaGreat.D
noncomputable def Zz.E:Env:={ tt:=TT,con:=[(149,ZG.con)],frz:=[],rows:=[14],live:=[(8,[4,5,6,9,10])],n:=57,pin:=0,nils:=[] }
noncomputable def Zz.fn:D.Fn:={ body:=Tryz.f76.body.getD .skip,res:=Tryz.f76.results.toList,ins:=[.agg [.v (.sl 27 (.sl 2 (.int .i64)))],.agg [.v (.int .i64),.v (.sl 2 (.int .i64))],.agg [.v (.int .i64),.v (.sl 2 (.int .i64))]],outs:=[.agg [.v (.int .i64),.own 2 true (.int .i64)],.one (.v (.int .i64))] }
def Zz.enc (y:lsd (flats Zz.fn.outs)×lsd (ios Zz.fn.ins)):Int×(List Int)×Int:=(y.1.1,y.1.2.1,y.1.2.2.1)
noncomputable def Zz.f (l0_0:List (List Int)) (a1_0:Int) (l1_1:List Int) (a2_0:Int) (l2_1:List Int):Option (Int×(List Int)×Int):=denF Zz.E Zz.fn Zz.enc (l0_0,a1_0,l1_1,a2_0,l2_1,())
noncomputable def Zz.l0 (x10:Int) (b0_0:Int) (b0_1:List Int) (b1_0:Int) (b1_1:List Int) (b2_0:Int) (b3_0:Int) (r4:List Int):Option (Int×(List Int)×Int):=denAt Zz.E Zz.fn Zz.enc [1,1,1,1,0,1,0] { fr:=[(4,.lf (.box 0 0)),(5,.lf (.box 1 0)),(6,.lf (.box 2 0)),(9,.lf (.box 3 0)),(10,.lf (.int .i64 x10))],ob:=[(0,.box 29 false [.int .i64 b0_0,.sl (.int .i64) b0_1]),(1,.box 29 false [.int .i64 b1_0,.sl (.int .i64) b1_1]),(2,.box 29 false [.int .i64 b2_0,.nil]),(3,.box 29 false [.int .i64 b3_0,.own 4]),(4,.row 2 true (.int .i64) r4)],nx:=5 }
theorem Zz.f_eq (l0_0:List (List Int)) (a1_0:Int) (l1_1:List Int) (a2_0:Int) (l2_1:List Int):Zz.f l0_0 a1_0 l1_1 a2_0 l2_1=(ZG.f l0_0 ([(a1_0,l1_1),(a2_0,l2_1)]:List (Int×(List Int)))).bind fun t15=>if t15=0 then(if a1_0=a2_0 then(Zz.l0 0 a1_0 l1_1 a2_0 l2_1 0 a1_0 ([]:List Int))else(some (0,([]:List Int),5)))else(some (0,([]:List Int),t15)):=by kernel_rfl
theorem Zz.l0_eq (x10:Int) (b0_0:Int) (b0_1:List Int) (b1_0:Int) (b1_1:List Int) (b2_0:Int) (b3_0:Int) (r4:List Int):Zz.l0 x10 b0_0 b0_1 b1_0 b1_1 b2_0 b3_0 r4=if x10 < (b0_1.length:Int)then(if 0≤x10 then(if x10 < (b0_1.length:Int)then(if 0≤x10 then(if x10 < (b1_1.length:Int)then(if b0_0=0 then none else(if r4.length+([(wrapI ((rd b0_1 x10)*(rd b1_1 x10)):Int).tmod b0_0]:List Int).length≤17592186044416 then(Zz.l0 (wrapI (x10+1)) b0_0 b0_1 b1_0 b1_1 b2_0 b3_0 (r4++([(wrapI ((rd b0_1 x10)*(rd b1_1 x10)):Int).tmod b0_0]:List Int)))else none))else none)else none)else none)else none)else(some (b3_0,r4,0)):=(Zt _ _ _ _).trans (by kernel_rfl)
noncomputable def Zz.con:Con:=⟨Zz.fn.ins,Zz.fn.outs,Int×(List Int)×Int,fun x=>Zz.f x.1 x.2.1 x.2.2.1 x.2.2.2.1 x.2.2.2.2.1,fun r=>((r.1,r.2.1,r.2.2,()),(()))⟩
theorem Zz.valid:Valid Tryz.prog 76 Zz.con:=fnV Zz.fn Zz.E Zz.enc ⟨ttOk,(Ze ZG.valid Zap)⟩ Tryz.func76
end Go.Proofs.YthmcpmnhdbeahaaGreat.P
namespace Go.Proofs.YthmcpmnhdbeahaaGreat.P
open Go Go.RowKit Go.Proofs.YthmcpmnhdbeahaaGreat.D
noncomputable def ZM.E:Env:={ tt:=TT,con:=[],frz:=[],rows:=[],live:=[],n:=25,pin:=0,nils:=[] }
noncomputable def ZM.fn:D.Fn:={ body:=Tryz.f160.body.getD .skip,res:=Tryz.f160.results.toList,ins:=[.one (.v (.int .i64)),.ptr true 2 [.v (.int .i64)],.ptr true 29 [.v (.int .i64),.v (.sl 2 (.int .i64))],.ptr true 29 [.v (.int .i64),.v (.sl 2 (.int .i64))]],outs:=[.one (.v .bool)] }
def ZM.enc (y:lsd (flats ZM.fn.outs)×lsd (ios ZM.fn.ins)):Bool:=y.1.1
noncomputable def ZM.f (a0:Int) (a1:Int) (a2_0:Int) (l2_1:List Int) (a3_0:Int) (l3_1:List Int):Option Bool:=denF ZM.E ZM.fn ZM.enc (a0,a1,a2_0,l2_1,a3_0,l3_1,())
theorem ZM.f_eq (a0:Int) (a1:Int) (a2_0:Int) (l2_1:List Int) (a3_0:Int) (l3_1:List Int):ZM.f a0 a1 a2_0 l2_1 a3_0 l3_1=if 0≤a0 then(if a0 < (l2_1.length:Int)then(if 0≤a0 then(if a0 < (l3_1.length:Int)then(if a3_0=0 then none else(some (!decide (((wrapI ((wrapI (a1*(rd l2_1 a0))) - (wrapI (a1*(rd l3_1 a0)))):Int).tmod a3_0)=0))))else none)else none)else none)else none:=by kernel_rfl
noncomputable def ZM.con:Con:=⟨ZM.fn.ins,ZM.fn.outs,Bool,fun x=>ZM.f x.1 x.2.1 x.2.2.1 x.2.2.2.1 x.2.2.2.2.1 x.2.2.2.2.2.1,fun r=>((r,()),(()))⟩
theorem ZM.valid:Valid Tryz.prog 160 ZM.con:=fnV ZM.fn ZM.E ZM.enc ⟨ttOk,Zap⟩ Tryz.func160
end Go.Proofs.YthmcpmnhdbeahaaGreat.P
namespace Go.Proofs.YthmcpmnhdbeahaaGreat.P
open Go Go.RowKit Go.Proofs.YthmcpmnhdbeahaaGreat.D
noncomputable def ZX.E:Env:={ tt:=TT,con:=[(139,Z7.con),(138,ZQ.con),(147,Zr.con),(160,ZM.con)],frz:=[],rows:=[],live:=[],n:=21,pin:=0,nils:=[] }
noncomputable def ZX.fn:D.Fn:={ body:=Tryz.f159.body.getD .skip,res:=Tryz.f159.results.toList,ins:=[.one (.v (.int .i64)),.ptr true 29 [.v (.int .i64),.v (.sl 2 (.int .i64))],.ptr true 29 [.v (.int .i64),.v (.sl 2 (.int .i64))],.ptr true 26 [.v (.sl 27 (.sl 2 (.int .i64)))]],outs:=[.one (.v .bool)] }
def ZX.enc (y:lsd (flats ZX.fn.outs)×lsd (ios ZX.fn.ins)):Bool:=y.1.1
noncomputable def ZX.f (a0:Int) (a1_0:Int) (l1_1:List Int) (a2_0:Int) (l2_1:List Int) (l3:List (List Int)):Option Bool:=denF ZX.E ZX.fn ZX.enc (a0,a1_0,l1_1,a2_0,l2_1,l3,())
theorem ZX.f_eq (a0:Int) (a1_0:Int) (l1_1:List Int) (a2_0:Int) (l2_1:List Int) (l3:List (List Int)):ZX.f a0 a1_0 l1_1 a2_0 l2_1 l3=if a2_0=0 then none else(if((wrapI (a0*a1_0):Int).tmod a2_0)=0 then((Z7.f l3).bind fun t16=>(ZQ.f t16).bind fun t17=>(Zr.f t17 (fun z0=>(ZM.f z0 a0 a1_0 l1_1 a2_0 l2_1).map fun z=>z)).bind fun t19=>some (decide (t19=true)))else(some true)):=by kernel_rfl
noncomputable def ZX.con:Con:=⟨ZX.fn.ins,ZX.fn.outs,Bool,fun x=>ZX.f x.1 x.2.1 x.2.2.1 x.2.2.2.1 x.2.2.2.2.1 x.2.2.2.2.2.1,fun r=>((r,()),(()))⟩
theorem ZX.valid:Valid Tryz.prog 159 ZX.con:=fnV ZX.fn ZX.E ZX.enc ⟨ttOk,(Ze Z7.valid (Ze ZQ.valid (Ze Zr.valid (Ze ZM.valid Zap))))⟩ Tryz.func159
end Go.Proofs.YthmcpmnhdbeahaaGreat.P
namespace Go.Proofs.YthmcpmnhdbeahaaGreat.P
open Go Go.RowKit Go.Proofs.YthmcpmnhdbeahaaGreat.D
noncomputable def Zag.E:Env:={ tt:=TT,con:=[(107,ZC.con),(138,ZQ.con),(145,Zd.con),(159,ZX.con)],frz:=[],rows:=[12],live:=[],n:=22,pin:=0,nils:=[] }
noncomputable def Zag.fn:D.Fn:={ body:=Tryz.f77.body.getD .skip,res:=Tryz.f77.results.toList,ins:=[.agg [.v (.sl 27 (.sl 2 (.int .i64)))],.agg [.v (.int .i64),.v (.sl 2 (.int .i64))],.agg [.v (.int .i64),.v (.sl 2 (.int .i64))]],outs:=[.one (.own 2 true (.int .i64)),.one (.v (.int .i64))] }
def Zag.enc (y:lsd (flats Zag.fn.outs)×lsd (ios Zag.fn.ins)):(List Int)×Int:=(y.1.1,y.1.2.1)
noncomputable def Zag.f (l0_0:List (List Int)) (a1_0:Int) (l1_1:List Int) (a2_0:Int) (l2_1:List Int):Option ((List Int)×Int):=denF Zag.E Zag.fn Zag.enc (l0_0,a1_0,l1_1,a2_0,l2_1,())
theorem Zag.f_eq (l0_0:List (List Int)) (a1_0:Int) (l1_1:List Int) (a2_0:Int) (l2_1:List Int):Zag.f l0_0 a1_0 l1_1 a2_0 l2_1=(ZC.f l0_0 ([(a1_0,l1_1),(a2_0,l2_1)]:List (Int×(List Int)))).bind fun t13=>if t13=0 then((ZQ.f a2_0).bind fun t19=>(Zd.f t19 (fun z0=>(ZX.f z0 a1_0 l1_1 a2_0 l2_1 l0_0).map fun z=>z)).bind fun t21=>some (t21,0))else(some (([]:List Int),t13)):=by kernel_rfl
noncomputable def Zag.con:Con:=⟨Zag.fn.ins,Zag.fn.outs,(List Int)×Int,fun x=>Zag.f x.1 x.2.1 x.2.2.1 x.2.2.2.1 x.2.2.2.2.1,fun r=>((r.1,r.2,()),(()))⟩
theorem Zag.valid:Valid Tryz.prog 77 Zag.con:=fnV Zag.fn Zag.E Zag.enc ⟨ttOk,(Ze ZC.valid (Ze ZQ.valid (Ze Zd.valid (Ze ZX.valid Zap))))⟩ Tryz.func77
end Go.Proofs.YthmcpmnhdbeahaaGreat.P
namespace Go.Proofs.YthmcpmnhdbeahaaGreat.P
open Go Go.RowKit Go.Proofs.YthmcpmnhdbeahaaGreat.D
noncomputable def ZaN.E:Env:={ tt:=TT,con:=[],frz:=[],rows:=[],live:=[(4,[2,3,4,7])],n:=44,pin:=0,nils:=[] }
noncomputable def ZaN.fn:D.Fn:={ body:=Tryz.f161.body.getD .skip,res:=Tryz.f161.results.toList,ins:=[.agg [.v (.int .i64),.v (.sl 2 (.int .i64))],.agg [.v (.int .i64),.v (.sl 2 (.int .i64))],.one (.v (.int .i64))],outs:=[.one (.v .bool)] }
def ZaN.enc (y:lsd (flats ZaN.fn.outs)×lsd (ios ZaN.fn.ins)):Bool:=y.1.1
noncomputable def ZaN.f (a0_0:Int) (l0_1:List Int) (a1_0:Int) (l1_1:List Int) (a2:Int):Option Bool:=denF ZaN.E ZaN.fn ZaN.enc (a0_0,l0_1,a1_0,l1_1,a2,())
noncomputable def ZaN.l0 (x2:Int) (x7:Int) (b0_0:Int) (b0_1:List Int) (b1_0:Int) (b1_1:List Int):Option Bool:=denAt ZaN.E ZaN.fn ZaN.enc [1,1,0,1,0] { fr:=[(2,.lf (.int .i64 x2)),(3,.lf (.box 0 0)),(4,.lf (.box 1 0)),(7,.lf (.int .i64 x7))],ob:=[(0,.box 29 false [.int .i64 b0_0,.sl (.int .i64) b0_1]),(1,.box 29 false [.int .i64 b1_0,.sl (.int .i64) b1_1])],nx:=2 }
theorem ZaN.f_eq (a0_0:Int) (l0_1:List Int) (a1_0:Int) (l1_1:List Int) (a2:Int):ZaN.f a0_0 l0_1 a1_0 l1_1 a2=if a1_0=0 then none else(if((wrapI (a2*a0_0):Int).tmod a1_0)=0 then(ZaN.l0 a2 0 a0_0 l0_1 a1_0 l1_1)else(some false)):=by kernel_rfl
theorem ZaN.l0_eq (x2:Int) (x7:Int) (b0_0:Int) (b0_1:List Int) (b1_0:Int) (b1_1:List Int):ZaN.l0 x2 x7 b0_0 b0_1 b1_0 b1_1=if x7 < (b0_1.length:Int)then(if 0≤x7 then(if x7 < (b0_1.length:Int)then(if b1_0=0 then none else(if 0≤x7 then(if x7 < (b1_1.length:Int)then(if b1_0=0 then none else(if((wrapI (x2*(rd b0_1 x7)):Int).tmod b1_0)=((wrapI (x2*(rd b1_1 x7)):Int).tmod b1_0)then(ZaN.l0 x2 (wrapI (x7+1)) b0_0 b0_1 b1_0 b1_1)else(some false)))else none)else none))else none)else none)else(some true):=(Zt _ _ _ _).trans (by kernel_rfl)
noncomputable def ZaN.con:Con:=⟨ZaN.fn.ins,ZaN.fn.outs,Bool,fun x=>ZaN.f x.1 x.2.1 x.2.2.1 x.2.2.2.1 x.2.2.2.2.1,fun r=>((r,()),(()))⟩
theorem ZaN.valid:Valid Tryz.prog 161 ZaN.con:=fnV ZaN.fn ZaN.E ZaN.enc ⟨ttOk,Zap⟩ Tryz.func161
end Go.Proofs.YthmcpmnhdbeahaaGreat.P
namespace Go.Proofs.YthmcpmnhdbeahaaGreat.P
open Go Go.RowKit Go.Proofs.YthmcpmnhdbeahaaGreat.D
noncomputable def Zy.E:Env:={ tt:=TT,con:=[(149,ZG.con),(161,ZaN.con)],frz:=[],rows:=[14],live:=[(6,[4,5,9,10])],n:=35,pin:=0,nils:=[] }
noncomputable def Zy.fn:D.Fn:={ body:=Tryz.f78.body.getD .skip,res:=Tryz.f78.results.toList,ins:=[.agg [.v (.sl 27 (.sl 2 (.int .i64)))],.agg [.v (.int .i64),.v (.sl 2 (.int .i64))],.agg [.v (.int .i64),.v (.sl 2 (.int .i64))]],outs:=[.one (.own 2 true (.int .i64)),.one (.v (.int .i64))] }
def Zy.enc (y:lsd (flats Zy.fn.outs)×lsd (ios Zy.fn.ins)):(List Int)×Int:=(y.1.1,y.1.2.1)
noncomputable def Zy.f (l0_0:List (List Int)) (a1_0:Int) (l1_1:List Int) (a2_0:Int) (l2_1:List Int):Option ((List Int)×Int):=denF Zy.E Zy.fn Zy.enc (l0_0,a1_0,l1_1,a2_0,l2_1,())
noncomputable def Zy.l0 (x10:Int) (b0_0:Int) (b0_1:List Int) (b1_0:Int) (b1_1:List Int) (r2:List Int):Option ((List Int)×Int):=denAt Zy.E Zy.fn Zy.enc [1,1,1,0,1,0] { fr:=[(4,.lf (.box 0 0)),(5,.lf (.box 1 0)),(9,.lf (.own 2)),(10,.lf (.int .i64 x10))],ob:=[(0,.box 29 false [.int .i64 b0_0,.sl (.int .i64) b0_1]),(1,.box 29 false [.int .i64 b1_0,.sl (.int .i64) b1_1]),(2,.row 2 true (.int .i64) r2)],nx:=3 }
theorem Zy.f_eq (l0_0:List (List Int)) (a1_0:Int) (l1_1:List Int) (a2_0:Int) (l2_1:List Int):Zy.f l0_0 a1_0 l1_1 a2_0 l2_1=(ZG.f l0_0 ([(a1_0,l1_1),(a2_0,l2_1)]:List (Int×(List Int)))).bind fun t15=>if t15=0 then(Zy.l0 0 a1_0 l1_1 a2_0 l2_1 ([]:List Int))else(some (([]:List Int),t15)):=by kernel_rfl
theorem Zy.l0_eq (x10:Int) (b0_0:Int) (b0_1:List Int) (b1_0:Int) (b1_1:List Int) (r2:List Int):Zy.l0 x10 b0_0 b0_1 b1_0 b1_1 r2=if x10 < b1_0 then((ZaN.f b0_0 b0_1 b1_0 b1_1 x10).bind fun t29=>if t29=true then(if r2.length+([x10]:List Int).length≤17592186044416 then(Zy.l0 (wrapI (x10+1)) b0_0 b0_1 b1_0 b1_1 (r2++([x10]:List Int)))else none)else(Zy.l0 (wrapI (x10+1)) b0_0 b0_1 b1_0 b1_1 r2))else(some (r2,0)):=(Zt _ _ _ _).trans (by kernel_rfl)
noncomputable def Zy.con:Con:=⟨Zy.fn.ins,Zy.fn.outs,(List Int)×Int,fun x=>Zy.f x.1 x.2.1 x.2.2.1 x.2.2.2.1 x.2.2.2.2.1,fun r=>((r.1,r.2,()),(()))⟩
theorem Zy.valid:Valid Tryz.prog 78 Zy.con:=fnV Zy.fn Zy.E Zy.enc ⟨ttOk,(Ze ZG.valid (Ze ZaN.valid Zap))⟩ Tryz.func78
end Go.Proofs.YthmcpmnhdbeahaaGreat.P
namespace Go.Proofs.YthmcpmnhdbeahaaGreat.P
open Go Go.RowKit Go.Proofs.YthmcpmnhdbeahaaGreat.D
noncomputable def bits_Mul64.E:Env:={ tt:=TT,con:=[],frz:=[],rows:=[],live:=[],n:=51,pin:=0,nils:=[] }
noncomputable def bits_Mul64.fn:D.Fn:={ body:=Tryz.f293.body.getD .skip,res:=Tryz.f293.results.toList,ins:=[.one (.v (.int .u64)),.one (.v (.int .u64))],outs:=[.one (.v (.int .u64)),.one (.v (.int .u64))] }
def bits_Mul64.enc (y:lsd (flats bits_Mul64.fn.outs)×lsd (ios bits_Mul64.fn.ins)):Int×Int:=(y.1.1,y.1.2.1)
noncomputable def bits_Mul64.f (a0:Int) (a1:Int):Option (Int×Int):=denF bits_Mul64.E bits_Mul64.fn bits_Mul64.enc (a0,a1,())
theorem bits_Mul64.f_eq (a0:Int) (a1:Int):bits_Mul64.f a0 a1=some (wr .u64 ((wr .u64 ((wr .u64 ((shrI .u64 a0 32)*(shrI .u64 a1 32)))+(shrI .u64 (wr .u64 ((wr .u64 ((shrI .u64 a0 32)*(andI .u64 a1 4294967295)))+(shrI .u64 (wr .u64 ((andI .u64 a0 4294967295)*(andI .u64 a1 4294967295))) 32))) 32)))+(shrI .u64 (wr .u64 ((andI .u64 (wr .u64 ((wr .u64 ((shrI .u64 a0 32)*(andI .u64 a1 4294967295)))+(shrI .u64 (wr .u64 ((andI .u64 a0 4294967295)*(andI .u64 a1 4294967295))) 32))) 4294967295)+(wr .u64 ((andI .u64 a0 4294967295)*(shrI .u64 a1 32))))) 32)),wr .u64 (a0*a1)):=by kernel_rfl
noncomputable def bits_Mul64.con:Con:=⟨bits_Mul64.fn.ins,bits_Mul64.fn.outs,Int×Int,fun x=>bits_Mul64.f x.1 x.2.1,fun r=>((r.1,r.2,()),(()))⟩
theorem bits_Mul64.valid:Valid Tryz.prog 293 bits_Mul64.con:=fnV bits_Mul64.fn bits_Mul64.E bits_Mul64.enc ⟨ttOk,Zap⟩ Tryz.func293
end Go.Proofs.YthmcpmnhdbeahaaGreat.P
namespace Go.Proofs.YthmcpmnhdbeahaaGreat.P
open Go Go.RowKit Go.Proofs.YthmcpmnhdbeahaaGreat.D
noncomputable def bits_Mul.E:Env:={ tt:=TT,con:=[(293,bits_Mul64.con)],frz:=[],rows:=[],live:=[],n:=30,pin:=0,nils:=[] }
noncomputable def bits_Mul.fn:D.Fn:={ body:=Tryz.f264.body.getD .skip,res:=Tryz.f264.results.toList,ins:=[.one (.v (.int .u64)),.one (.v (.int .u64))],outs:=[.one (.v (.int .u64)),.one (.v (.int .u64))] }
def bits_Mul.enc (y:lsd (flats bits_Mul.fn.outs)×lsd (ios bits_Mul.fn.ins)):Int×Int:=(y.1.1,y.1.2.1)
noncomputable def bits_Mul.f (a0:Int) (a1:Int):Option (Int×Int):=denF bits_Mul.E bits_Mul.fn bits_Mul.enc (a0,a1,())
theorem bits_Mul.f_eq (a0:Int) (a1:Int):bits_Mul.f a0 a1=(bits_Mul64.f a0 a1).bind fun t25=>some (t25.1,t25.2):=by kernel_rfl
noncomputable def bits_Mul.con:Con:=⟨bits_Mul.fn.ins,bits_Mul.fn.outs,Int×Int,fun x=>bits_Mul.f x.1 x.2.1,fun r=>((r.1,r.2,()),(()))⟩
theorem bits_Mul.valid:Valid Tryz.prog 264 bits_Mul.con:=fnV bits_Mul.fn bits_Mul.E bits_Mul.enc ⟨ttOk,(Ze bits_Mul64.valid Zap)⟩ Tryz.func264
end Go.Proofs.YthmcpmnhdbeahaaGreat.P
namespace Go.Proofs.YthmcpmnhdbeahaaGreat.P
open Go Go.RowKit Go.Proofs.YthmcpmnhdbeahaaGreat.D
noncomputable def ZB.E:Env:={ tt:=TT,con:=[(264,bits_Mul.con)],frz:=[],rows:=[],live:=[(8,[7,8])],n:=48,pin:=0,nils:=[44] }
noncomputable def ZB.fn:D.Fn:={ body:=Tryz.f221.body.getD .skip,res:=Tryz.f221.results.toList,ins:=[.one (.v (.sl 2 (.int .i64))),.one (.v (.int .i64))],outs:=[.one (.own 2 true (.int .i64))] }
def ZB.enc (y:lsd (flats ZB.fn.outs)×lsd (ios ZB.fn.ins)):(List Int):=y.1.1
noncomputable def ZB.f (l0:List Int) (a1:Int):Option (List Int):=denF ZB.E ZB.fn ZB.enc (l0,a1,())
noncomputable def ZB.l0 (x8:Int) (r0:List Int):Option (List Int):=denAt ZB.E ZB.fn ZB.enc [1,1,1,1,1,1,0,0] { fr:=[(7,.lf (.own 0)),(8,.lf (.int .i64 x8))],ob:=[(0,.row 2 true (.int .i64) r0)],nx:=1 }
theorem ZB.f_eq (l0:List Int) (a1:Int):ZB.f l0 a1=if a1 < 0 then none else((bits_Mul.f (wr .u64 (l0.length:Int)) (wr .u64 a1)).bind fun t18=>if t18.1 > 0 then none else(if t18.2 > 9223372036854775807 then none else(if wrapI t18.2=wrapI t18.2 then(if 0≤wrapI t18.2 then(if(wrapI t18.2:Int).toNat≤17592186044416 then(if 0 < ((List.replicate (wrapI t18.2:Int).toNat (0:Int)).length:Int)then(ZB.l0 ((List.take ((List.replicate (wrapI t18.2:Int).toNat (0:Int)).length - 0) l0).length:Int) (List.take 0 (List.replicate (wrapI t18.2:Int).toNat (0:Int))++List.take ((List.replicate (wrapI t18.2:Int).toNat (0:Int)).length - 0) l0++List.drop (0+(List.take ((List.replicate (wrapI t18.2:Int).toNat (0:Int)).length - 0) l0).length) (List.replicate (wrapI t18.2:Int).toNat (0:Int))))else none)else none)else none)else none))):=by kernel_rfl
theorem ZB.l0_eq (x8:Int) (r0:List Int):ZB.l0 x8 r0=if x8 < (r0.length:Int)then(if 0 < (r0.length:Int)then(if 0≤x8 then(if x8≤(r0.length:Int)then(if 0 < (r0.length:Int)then(if 0≤x8 then(if x8≤(r0.length:Int)then(if 0 < (r0.length:Int)then(ZB.l0 (wrapI (x8+((List.take (r0.length - ((x8:Int).toNat)) (List.take ((x8:Int).toNat) r0)).length:Int))) (List.take ((x8:Int).toNat) r0++List.take (r0.length - ((x8:Int).toNat)) (List.take ((x8:Int).toNat) r0)++List.drop (((x8:Int).toNat)+(List.take (r0.length - ((x8:Int).toNat)) (List.take ((x8:Int).toNat) r0)).length) r0))else none)else none)else none)else none)else none)else none)else none)else(some r0):=(Zt _ _ _ _).trans (by kernel_rfl)
noncomputable def ZB.con:Con:=⟨ZB.fn.ins,ZB.fn.outs,(List Int),fun x=>ZB.f x.1 x.2.1,fun r=>((r,()),(()))⟩
theorem ZB.valid:Valid Tryz.prog 221 ZB.con:=fnV ZB.fn ZB.E ZB.enc ⟨ttOk,(Ze bits_Mul.valid Zap)⟩ Tryz.func221
end Go.Proofs.YthmcpmnhdbeahaaGreat.P
namespace Go.Proofs.YthmcpmnhdbeahaaGreat.P
open Go Go.RowKit Go.Proofs.YthmcpmnhdbeahaaGreat.D
noncomputable def Zba.E:Env:={ tt:=TT,con:=[(221,ZB.con)],frz:=[],rows:=[],live:=[],n:=12,pin:=0,nils:=[] }
noncomputable def Zba.fn:D.Fn:={ body:=Tryz.f164.body.getD .skip,res:=Tryz.f164.results.toList,ins:=[.agg [.v (.sl 27 (.sl 2 (.int .i64)))],.one (.v (.int .i64))],outs:=[.agg [.v (.int .i64),.own 2 true (.int .i64)]] }
def Zba.enc (y:lsd (flats Zba.fn.outs)×lsd (ios Zba.fn.ins)):Int×(List Int):=(y.1.1,y.1.2.1)
noncomputable def Zba.f (l0_0:List (List Int)) (a1:Int):Option (Int×(List Int)):=denF Zba.E Zba.fn Zba.enc (l0_0,a1,())
theorem Zba.f_eq (l0_0:List (List Int)) (a1:Int):Zba.f l0_0 a1=(ZB.f ([1]:List Int) (l0_0.length:Int)).bind fun t10=>some (a1,t10):=by kernel_rfl
noncomputable def Zba.con:Con:=⟨Zba.fn.ins,Zba.fn.outs,Int×(List Int),fun x=>Zba.f x.1 x.2.1,fun r=>((r.1,r.2,()),(()))⟩
theorem Zba.valid:Valid Tryz.prog 164 Zba.con:=fnV Zba.fn Zba.E Zba.enc ⟨ttOk,(Ze ZB.valid Zap)⟩ Tryz.func164
end Go.Proofs.YthmcpmnhdbeahaaGreat.P
namespace Go.Proofs.YthmcpmnhdbeahaaGreat.P
open Go Go.RowKit Go.Proofs.YthmcpmnhdbeahaaGreat.D
noncomputable def Z6.E:Env:={ tt:=TT,con:=[(162,Zl.con),(163,ZaK.con),(164,Zba.con)],frz:=[],rows:=[],live:=[],n:=19,pin:=0,nils:=[] }
noncomputable def Z6.fn:D.Fn:={ body:=Tryz.f79.body.getD .skip,res:=Tryz.f79.results.toList,ins:=[.agg [.v (.sl 27 (.sl 2 (.int .i64)))],.one (.v (.int .i64))],outs:=[.agg [.v (.int .i64),.own 2 true (.int .i64)],.one (.v (.int .i64))] }
def Z6.enc (y:lsd (flats Z6.fn.outs)×lsd (ios Z6.fn.ins)):Int×(List Int)×Int:=(y.1.1,y.1.2.1,y.1.2.2.1)
noncomputable def Z6.f (l0_0:List (List Int)) (a1:Int):Option (Int×(List Int)×Int):=denF Z6.E Z6.fn Z6.enc (l0_0,a1,())
theorem Z6.f_eq (l0_0:List (List Int)) (a1:Int):Z6.f l0_0 a1=(Zl.f l0_0).bind fun t8=>if t8=true then((ZaK.f a1).bind fun t13=>if t13=true then((Zba.f l0_0 a1).bind fun t18=>some (t18.1,t18.2,0))else(some (0,([]:List Int),2)))else(some (0,([]:List Int),1)):=by kernel_rfl
noncomputable def Z6.con:Con:=⟨Z6.fn.ins,Z6.fn.outs,Int×(List Int)×Int,fun x=>Z6.f x.1 x.2.1,fun r=>((r.1,r.2.1,r.2.2,()),(()))⟩
theorem Z6.valid:Valid Tryz.prog 79 Z6.con:=fnV Z6.fn Z6.E Z6.enc ⟨ttOk,(Ze Zl.valid (Ze ZaK.valid (Ze Zba.valid Zap)))⟩ Tryz.func79
end Go.Proofs.YthmcpmnhdbeahaaGreat.P
namespace Go.Proofs.YthmcpmnhdbeahaaGreat.P
open Go Go.RowKit Go.Proofs.YthmcpmnhdbeahaaGreat.D
noncomputable def Za0.E:Env:={ tt:=TT,con:=[],frz:=[],rows:=[],live:=[(3,[0,5,6,7])],n:=14,pin:=0,nils:=[] }
noncomputable def Za0.fn:D.Fn:={ body:=Tryz.f265.body.getD .skip,res:=Tryz.f265.results.toList,ins:=[.one (.v (.int .i64)),.one (.v (.int .i64))],outs:=[.one (.v (.int .i64))] }
def Za0.enc (y:lsd (flats Za0.fn.outs)×lsd (ios Za0.fn.ins)):Int:=y.1.1
noncomputable def Za0.f (a0:Int) (a1:Int):Option Int:=denF Za0.E Za0.fn Za0.enc (a0,a1,())
noncomputable def Za0.l0 (x0:Int) (x5:Int) (x6:Int) (x7:Int):Option Int:=denAt Za0.E Za0.fn Za0.enc [1,1,0,1,0] { fr:=[(0,.lf (.int .i64 x0)),(5,.lf (.int .i64 x5)),(6,.lf (.int .i64 x6)),(7,.lf (.int .i64 x7))],ob:=[],nx:=0 }
theorem Za0.f_eq (a0:Int) (a1:Int):Za0.f a0 a1=Za0.l0 a0 1 a1 0:=by kernel_rfl
theorem Za0.l0_eq (x0:Int) (x5:Int) (x6:Int) (x7:Int):Za0.l0 x0 x5 x6 x7=if x7 < x6 then(Za0.l0 x0 (wrapI (x5*x0)) x6 (wrapI (x7+1)))else(some x5):=(Zt _ _ _ _).trans (by kernel_rfl)
noncomputable def Za0.con:Con:=⟨Za0.fn.ins,Za0.fn.outs,Int,fun x=>Za0.f x.1 x.2.1,fun r=>((r,()),(()))⟩
theorem Za0.valid:Valid Tryz.prog 265 Za0.con:=fnV Za0.fn Za0.E Za0.enc ⟨ttOk,Zap⟩ Tryz.func265
end Go.Proofs.YthmcpmnhdbeahaaGreat.P
namespace Go.Proofs.YthmcpmnhdbeahaaGreat.P
open Go Go.RowKit Go.Proofs.YthmcpmnhdbeahaaGreat.D
noncomputable def ZaZ.E:Env:={ tt:=TT,con:=[(139,Z7.con),(265,Za0.con)],frz:=[],rows:=[],live:=[],n:=10,pin:=0,nils:=[] }
noncomputable def ZaZ.fn:D.Fn:={ body:=Tryz.f228.body.getD .skip,res:=Tryz.f228.results.toList,ins:=[.agg [.v (.sl 27 (.sl 2 (.int .i64)))],.one (.v (.int .i64))],outs:=[.one (.v (.int .i64))] }
def ZaZ.enc (y:lsd (flats ZaZ.fn.outs)×lsd (ios ZaZ.fn.ins)):Int:=y.1.1
noncomputable def ZaZ.f (l0_0:List (List Int)) (a1:Int):Option Int:=denF ZaZ.E ZaZ.fn ZaZ.enc (l0_0,a1,())
theorem ZaZ.f_eq (l0_0:List (List Int)) (a1:Int):ZaZ.f l0_0 a1=(Z7.f l0_0).bind fun t6=>(Za0.f (wrapI (t6 - 1)) a1).bind fun t9=>some t9:=by kernel_rfl
noncomputable def ZaZ.con:Con:=⟨ZaZ.fn.ins,ZaZ.fn.outs,Int,fun x=>ZaZ.f x.1 x.2.1,fun r=>((r,()),(()))⟩
theorem ZaZ.valid:Valid Tryz.prog 228 ZaZ.con:=fnV ZaZ.fn ZaZ.E ZaZ.enc ⟨ttOk,(Ze Z7.valid (Ze Za0.valid Zap))⟩ Tryz.func228
end Go.Proofs.YthmcpmnhdbeahaaGreat.P
namespace Go.Proofs.YthmcpmnhdbeahaaGreat.P
open Go Go.RowKit Go.Proofs.YthmcpmnhdbeahaaGreat.D
noncomputable def ZaX.E:Env:={ tt:=TT,con:=[(228,ZaZ.con)],frz:=[],rows:=[],live:=[],n:=9,pin:=0,nils:=[] }
noncomputable def ZaX.fn:D.Fn:={ body:=Tryz.f215.body.getD .skip,res:=Tryz.f215.results.toList,ins:=[.agg [.v (.sl 27 (.sl 2 (.int .i64)))],.one (.v (.int .i64))],outs:=[.one (.v .bool)] }
def ZaX.enc (y:lsd (flats ZaX.fn.outs)×lsd (ios ZaX.fn.ins)):Bool:=y.1.1
noncomputable def ZaX.f (l0_0:List (List Int)) (a1:Int):Option Bool:=denF ZaX.E ZaX.fn ZaX.enc (l0_0,a1,())
theorem ZaX.f_eq (l0_0:List (List Int)) (a1:Int):ZaX.f l0_0 a1=(ZaZ.f l0_0 a1).bind fun t7=>some (decide (t7≤49)):=by kernel_rfl
noncomputable def ZaX.con:Con:=⟨ZaX.fn.ins,ZaX.fn.outs,Bool,fun x=>ZaX.f x.1 x.2.1,fun r=>((r,()),(()))⟩
theorem ZaX.valid:Valid Tryz.prog 215 ZaX.con:=fnV ZaX.fn ZaX.E ZaX.enc ⟨ttOk,(Ze ZaZ.valid Zap)⟩ Tryz.func215
end Go.Proofs.YthmcpmnhdbeahaaGreat.P
namespace Go.Proofs.YthmcpmnhdbeahaaGreat.P
open Go Go.RowKit Go.Proofs.YthmcpmnhdbeahaaGreat.D
noncomputable def Za1.E:Env:={ tt:=TT,con:=[],frz:=[],rows:=[],live:=[],n:=9,pin:=0,nils:=[] }
noncomputable def Za1.fn:D.Fn:={ body:=Tryz.f248.body.getD .skip,res:=Tryz.f248.results.toList,ins:=[.one (.v (.int .i64))],outs:=[.one (.v .bool)] }
def Za1.enc (y:lsd (flats Za1.fn.outs)×lsd (ios Za1.fn.ins)):Bool:=y.1.1
noncomputable def Za1.f (a0:Int):Option Bool:=denF Za1.E Za1.fn Za1.enc (a0,())
theorem Za1.f_eq (a0:Int):Za1.f a0=if a0≥0 then(some (decide (a0≤3)))else(some false):=by kernel_rfl
noncomputable def Za1.con:Con:=⟨Za1.fn.ins,Za1.fn.outs,Bool,fun x=>Za1.f x.1,fun r=>((r,()),(()))⟩
theorem Za1.valid:Valid Tryz.prog 248 Za1.con:=fnV Za1.fn Za1.E Za1.enc ⟨ttOk,Zap⟩ Tryz.func248
end Go.Proofs.YthmcpmnhdbeahaaGreat.P
namespace Go.Proofs.YthmcpmnhdbeahaaGreat.P
open Go Go.RowKit Go.Proofs.YthmcpmnhdbeahaaGreat.D
noncomputable def ZaR.E:Env:={ tt:=TT,con:=[(181,ZI.con),(248,Za1.con)],frz:=[],rows:=[10],live:=[],n:=17,pin:=0,nils:=[] }
noncomputable def ZaR.fn:D.Fn:={ body:=Tryz.f222.body.getD .skip,res:=Tryz.f222.results.toList,ins:=[.agg [.v (.sl 27 (.sl 2 (.int .i64)))],.agg [.v (.int .i64),.v (.sl 2 (.int .i64))],.one (.v (.int .i64))],outs:=[.one (.v (.int .i64))] }
def ZaR.enc (y:lsd (flats ZaR.fn.outs)×lsd (ios ZaR.fn.ins)):Int:=y.1.1
noncomputable def ZaR.f (l0_0:List (List Int)) (a1_0:Int) (l1_1:List Int) (a2:Int):Option Int:=denF ZaR.E ZaR.fn ZaR.enc (l0_0,a1_0,l1_1,a2,())
theorem ZaR.f_eq (l0_0:List (List Int)) (a1_0:Int) (l1_1:List Int) (a2:Int):ZaR.f l0_0 a1_0 l1_1 a2=(ZI.f l0_0 ([(a1_0,l1_1)]:List (Int×(List Int)))).bind fun t11=>if t11=true then((Za1.f a2).bind fun t15=>if t15=true then(some 0)else(some 2))else(some 1):=by kernel_rfl
noncomputable def ZaR.con:Con:=⟨ZaR.fn.ins,ZaR.fn.outs,Int,fun x=>ZaR.f x.1 x.2.1 x.2.2.1 x.2.2.2.1,fun r=>((r,()),(()))⟩
theorem ZaR.valid:Valid Tryz.prog 222 ZaR.con:=fnV ZaR.fn ZaR.E ZaR.enc ⟨ttOk,(Ze ZI.valid (Ze Za1.valid Zap))⟩ Tryz.func222
end Go.Proofs.YthmcpmnhdbeahaaGreat.P
namespace Go.Proofs.YthmcpmnhdbeahaaGreat.P
open Go Go.RowKit Go.Proofs.YthmcpmnhdbeahaaGreat.D
noncomputable def Za4.E:Env:={ tt:=TT,con:=[(222,ZaR.con),(215,ZaX.con)],frz:=[],rows:=[],live:=[],n:=19,pin:=0,nils:=[] }
noncomputable def Za4.fn:D.Fn:={ body:=Tryz.f165.body.getD .skip,res:=Tryz.f165.results.toList,ins:=[.agg [.v (.sl 27 (.sl 2 (.int .i64)))],.agg [.v (.int .i64),.v (.sl 2 (.int .i64))],.one (.v (.int .i64))],outs:=[.one (.v (.int .i64))] }
def Za4.enc (y:lsd (flats Za4.fn.outs)×lsd (ios Za4.fn.ins)):Int:=y.1.1
noncomputable def Za4.f (l0_0:List (List Int)) (a1_0:Int) (l1_1:List Int) (a2:Int):Option Int:=denF Za4.E Za4.fn Za4.enc (l0_0,a1_0,l1_1,a2,())
theorem Za4.f_eq (l0_0:List (List Int)) (a1_0:Int) (l1_1:List Int) (a2:Int):Za4.f l0_0 a1_0 l1_1 a2=(ZaR.f l0_0 a1_0 l1_1 a2).bind fun t11=>if t11=0 then((ZaX.f l0_0 a2).bind fun t17=>if t17=true then(some 0)else(some 3))else(some t11):=by kernel_rfl
noncomputable def Za4.con:Con:=⟨Za4.fn.ins,Za4.fn.outs,Int,fun x=>Za4.f x.1 x.2.1 x.2.2.1 x.2.2.2.1,fun r=>((r,()),(()))⟩
theorem Za4.valid:Valid Tryz.prog 165 Za4.con:=fnV Za4.fn Za4.E Za4.enc ⟨ttOk,(Ze ZaR.valid (Ze ZaX.valid Zap))⟩ Tryz.func165
end Go.Proofs.YthmcpmnhdbeahaaGreat.P
namespace Go.Proofs.YthmcpmnhdbeahaaGreat.P
open Go Go.RowKit Go.Proofs.YthmcpmnhdbeahaaGreat.D
noncomputable def Zaw.E:Env:={ tt:=TT,con:=[],frz:=[],rows:=[],live:=[],n:=27,pin:=0,nils:=[] }
noncomputable def Zaw.fn:D.Fn:={ body:=Tryz.f212.body.getD .skip,res:=Tryz.f212.results.toList,ins:=[.non,.one (.v (.int .i64))],outs:=[.one (.own 2 true (.int .i64))] }
def Zaw.enc (y:lsd (flats Zaw.fn.outs)×lsd (ios Zaw.fn.ins)):(List Int):=y.1.1
noncomputable def Zaw.f (a1:Int):Option (List Int):=denF Zaw.E Zaw.fn Zaw.enc (a1,())
theorem Zaw.f_eq (a1:Int):Zaw.f a1=if a1 < 0 then none else(if(wrapI (a1 - (wrapI (0 - 0)))) > 0 then(if 0 < wrapI (a1 - (wrapI (0 - 0)))then(if(wrapI (a1 - (wrapI (0 - 0))):Int).toNat≤17592186044416 then(if 0 < ((List.replicate (wrapI (a1 - (wrapI (0 - 0))):Int).toNat (0:Int)).length:Int)then(if 0≤((List.replicate (wrapI (a1 - (wrapI (0 - 0))):Int).toNat (0:Int)).length:Int)then(some ((List.replicate (wrapI (a1 - (wrapI (0 - 0))):Int).toNat (0:Int)).take (0:Int).toNat))else none)else none)else none)else none)else(some ([]:List Int))):=by kernel_rfl
noncomputable def Zaw.con:Con:=⟨Zaw.fn.ins,Zaw.fn.outs,(List Int),fun x=>Zaw.f x.1,fun r=>((r,()),(()))⟩
theorem Zaw.valid:Valid Tryz.prog 212 Zaw.con:=fnV Zaw.fn Zaw.E Zaw.enc ⟨ttOk,Zap⟩ Tryz.func212
end Go.Proofs.YthmcpmnhdbeahaaGreat.P
namespace Go.Proofs.YthmcpmnhdbeahaaGreat.P
open Go Go.RowKit Go.Proofs.YthmcpmnhdbeahaaGreat.D
noncomputable def Zf.E:Env:={ tt:=TT,con:=[(212,Zaw.con)],frz:=[],rows:=[],live:=[(3,[0,3,9,10,11]),(11,[6,25,26,27])],n:=36,pin:=0,nils:=[] }
noncomputable def Zf.fn:D.Fn:={ body:=Tryz.f137.body.getD .skip,res:=Tryz.f137.results.toList,ins:=[.one (.v (.sl 27 (.sl 2 (.int .i64))))],outs:=[.one (.own 2 true (.int .i64))] }
def Zf.enc (y:lsd (flats Zf.fn.outs)×lsd (ios Zf.fn.ins)):(List Int):=y.1.1
noncomputable def Zf.f (l0:List (List Int)):Option (List Int):=denF Zf.E Zf.fn Zf.enc (l0,())
noncomputable def Zf.l0 (x0:List (List Int)) (x3:Int) (x9:List (List Int)) (x10:Int) (x11:Int):Option (List Int):=denAt Zf.E Zf.fn Zf.enc [1,1,0,1,0] { fr:=[(0,.lf (.sl (.sl 2 (.int .i64)) x0)),(3,.lf (.int .i64 x3)),(9,.lf (.sl (.sl 2 (.int .i64)) x9)),(10,.lf (.int .i64 x10)),(11,.lf (.int .i64 x11))],ob:=[],nx:=0 }
noncomputable def Zf.l1 (x25:List (List Int)) (x26:Int) (x27:Int) (r0:List Int):Option (List Int):=denAt Zf.E Zf.fn Zf.enc [1,1,1,1,0,1,0] { fr:=[(6,.lf (.own 0)),(25,.lf (.sl (.sl 2 (.int .i64)) x25)),(26,.lf (.int .i64 x26)),(27,.lf (.int .i64 x27))],ob:=[(0,.row 2 true (.int .i64) r0)],nx:=1 }
theorem Zf.f_eq (l0:List (List Int)):Zf.f l0=Zf.l0 l0 0 l0 (l0.length:Int) 0:=by kernel_rfl
theorem Zf.l0_eq (x0:List (List Int)) (x3:Int) (x9:List (List Int)) (x10:Int) (x11:Int):Zf.l0 x0 x3 x9 x10 x11=if x11 < x10 then(if 0≤x11 then(if x11 < (x9.length:Int)then(if(wrapI (x3+((row x9 x11).length:Int))) < 0 then none else(Zf.l0 x0 (wrapI (x3+((row x9 x11).length:Int))) x9 x10 (wrapI (x11+1))))else none)else none)else((Zaw.f x3).bind fun t24=>Zf.l1 x0 (x0.length:Int) 0 t24):=(Zt _ _ _ _).trans (by kernel_rfl)
theorem Zf.l1_eq (x25:List (List Int)) (x26:Int) (x27:Int) (r0:List Int):Zf.l1 x25 x26 x27 r0=if x27 < x26 then(if 0≤x27 then(if x27 < (x25.length:Int)then(if r0.length+(row x25 x27).length≤17592186044416 then(Zf.l1 x25 x26 (wrapI (x27+1)) (r0++(row x25 x27)))else none)else none)else none)else(some r0):=(Zt _ _ _ _).trans (by kernel_rfl)
noncomputable def Zf.con:Con:=⟨Zf.fn.ins,Zf.fn.outs,(List Int),fun x=>Zf.f x.1,fun r=>((r,()),(()))⟩
theorem Zf.valid:Valid Tryz.prog 137 Zf.con:=fnV Zf.fn Zf.E Zf.enc ⟨ttOk,(Ze Zaw.valid Zap)⟩ Tryz.func137
end Go.Proofs.YthmcpmnhdbeahaaGreat.P
namespace Go.Proofs.YthmcpmnhdbeahaaGreat.P
open Go Go.RowKit Go.Proofs.YthmcpmnhdbeahaaGreat.D
noncomputable def Zbj.E:Env:={ tt:=TT,con:=[(228,ZaZ.con)],frz:=[],rows:=[],live:=[],n:=11,pin:=0,nils:=[] }
noncomputable def Zbj.fn:D.Fn:={ body:=Tryz.f211.body.getD .skip,res:=Tryz.f211.results.toList,ins:=[.agg [.v (.sl 27 (.sl 2 (.int .i64)))],.one (.v (.int .i64))],outs:=[.agg [.v (.int .i64),.own 2 true (.int .i64)]] }
def Zbj.enc (y:lsd (flats Zbj.fn.outs)×lsd (ios Zbj.fn.ins)):Int×(List Int):=(y.1.1,y.1.2.1)
noncomputable def Zbj.f (l0_0:List (List Int)) (a1:Int):Option (Int×(List Int)):=denF Zbj.E Zbj.fn Zbj.enc (l0_0,a1,())
theorem Zbj.f_eq (l0_0:List (List Int)) (a1:Int):Zbj.f l0_0 a1=(ZaZ.f l0_0 a1).bind fun t8=>if t8=t8 then(if 0≤t8 then(if(t8:Int).toNat≤17592186044416 then(some (a1,List.replicate (t8:Int).toNat (0:Int)))else none)else none)else none:=by kernel_rfl
noncomputable def Zbj.con:Con:=⟨Zbj.fn.ins,Zbj.fn.outs,Int×(List Int),fun x=>Zbj.f x.1 x.2.1,fun r=>((r.1,r.2,()),(()))⟩
theorem Zbj.valid:Valid Tryz.prog 211 Zbj.con:=fnV Zbj.fn Zbj.E Zbj.enc ⟨ttOk,(Ze ZaZ.valid Zap)⟩ Tryz.func211
end Go.Proofs.YthmcpmnhdbeahaaGreat.P
namespace Go.Proofs.YthmcpmnhdbeahaaGreat.P
open Go Go.RowKit Go.Proofs.YthmcpmnhdbeahaaGreat.D
noncomputable def ZaQ.E:Env:={ tt:=TT,con:=[(139,Z7.con)],frz:=[],rows:=[],live:=[(3,[2,7,8,9])],n:=32,pin:=0,nils:=[] }
noncomputable def ZaQ.fn:D.Fn:={ body:=Tryz.f284.body.getD .skip,res:=Tryz.f284.results.toList,ins:=[.agg [.v (.sl 27 (.sl 2 (.int .i64)))],.one (.v (.int .i64)),.one (.v (.int .i64))],outs:=[.one (.own 2 true (.int .i64))] }
def ZaQ.enc (y:lsd (flats ZaQ.fn.outs)×lsd (ios ZaQ.fn.ins)):(List Int):=y.1.1
noncomputable def ZaQ.f (l0_0:List (List Int)) (a1:Int) (a2:Int):Option (List Int):=denF ZaQ.E ZaQ.fn ZaQ.enc (l0_0,a1,a2,())
noncomputable def ZaQ.l0 (x2:Int) (x8:Int) (x9:Int) (r0:List Int):Option (List Int):=denAt ZaQ.E ZaQ.fn ZaQ.enc [1,1,0,1,0] { fr:=[(2,.lf (.int .i64 x2)),(7,.lf (.own 0)),(8,.lf (.int .i64 x8)),(9,.lf (.int .i64 x9))],ob:=[(0,.row 2 true (.int .i64) r0)],nx:=1 }
theorem ZaQ.f_eq (l0_0:List (List Int)) (a1:Int) (a2:Int):ZaQ.f l0_0 a1 a2=if a1=a1 then(if 0≤a1 then(if(a1:Int).toNat≤17592186044416 then((Z7.f l0_0).bind fun t13=>ZaQ.l0 a2 (wrapI (t13 - 1)) (wrapI (a1 - 1)) (List.replicate (a1:Int).toNat (0:Int)))else none)else none)else none:=by kernel_rfl
theorem ZaQ.l0_eq (x2:Int) (x8:Int) (x9:Int) (r0:List Int):ZaQ.l0 x2 x8 x9 r0=if x9≥0 then(if x8=0 then none else(if 0≤x9 then(if x9 < (r0.length:Int)then(if 0≤x9 then(if x9 < (r0.length:Int)then(if x8=0 then none else(ZaQ.l0 (wrapI ((x2:Int).tdiv x8)) x8 (wrapI (x9 - 1)) (r0.set (x9:Int).toNat (wrapI (1+((x2:Int).tmod x8))))))else none)else none)else none)else none))else(some r0):=(Zt _ _ _ _).trans (by kernel_rfl)
noncomputable def ZaQ.con:Con:=⟨ZaQ.fn.ins,ZaQ.fn.outs,(List Int),fun x=>ZaQ.f x.1 x.2.1 x.2.2.1,fun r=>((r,()),(()))⟩
theorem ZaQ.valid:Valid Tryz.prog 284 ZaQ.con:=fnV ZaQ.fn ZaQ.E ZaQ.enc ⟨ttOk,(Ze Z7.valid Zap)⟩ Tryz.func284
end Go.Proofs.YthmcpmnhdbeahaaGreat.P
namespace Go.Proofs.YthmcpmnhdbeahaaGreat.P
open Go Go.RowKit Go.Proofs.YthmcpmnhdbeahaaGreat.D
noncomputable def Za9.E:Env:={ tt:=TT,con:=[(211,Zbj.con),(284,ZaQ.con)],frz:=[],rows:=[],live:=[(3,[1,2,3,4,8,9,16,17])],n:=38,pin:=0,nils:=[] }
noncomputable def Za9.fn:D.Fn:={ body:=Tryz.f249.body.getD .skip,res:=Tryz.f249.results.toList,ins:=[.agg [.v (.sl 27 (.sl 2 (.int .i64)))],.one (.v (.int .i64)),.one (.v (.int .i64)),.one (.fn [(.sl 2 (.int .i64))] (.int .i64))],outs:=[.agg [.v (.int .i64),.own 2 true (.int .i64)]] }
def Za9.enc (y:lsd (flats Za9.fn.outs)×lsd (ios Za9.fn.ins)):Int×(List Int):=(y.1.1,y.1.2.1)
noncomputable def Za9.f (l0_0:List (List Int)) (a1:Int) (a2:Int) (f3:(List Int)→Option Int):Option (Int×(List Int)):=denF Za9.E Za9.fn Za9.enc (l0_0,a1,a2,fun x=>f3 x.1,())
noncomputable def Za9.l0 (x1:Int) (x2:Int) (fx3:(List Int)→Option Int) (x16:Int) (x17:Int) (b0_0:List (List Int)) (b1_0:Int) (b2_0:Int) (r3:List Int):Option (Int×(List Int)):=denAt Za9.E Za9.fn Za9.enc [1,1,0,1,0] { fr:=[(1,.lf (.int .i64 x1)),(2,.lf (.int .i64 x2)),(3,.lf (.fn [(.sl 2 (.int .i64))] (.int .i64) (fun x=>fx3 x.1))),(4,.lf (.box 0 0)),(8,.lf (.box 1 0)),(9,.lf (.box 2 0)),(16,.lf (.int .i64 x16)),(17,.lf (.int .i64 x17))],ob:=[(0,.box 26 false [.sl (.sl 2 (.int .i64)) b0_0]),(1,.box 56 false [.int .i64 b1_0,.nil]),(2,.box 56 false [.int .i64 b2_0,.own 3]),(3,.row 2 true (.int .i64) r3)],nx:=4 }
theorem Za9.f_eq (l0_0:List (List Int)) (a1:Int) (a2:Int) (f3:(List Int)→Option Int):Za9.f l0_0 a1 a2 f3=(Zbj.f l0_0 a2).bind fun t13=>Za9.l0 a1 a2 f3 (t13.2.length:Int) 0 l0_0 0 t13.1 t13.2:=by kernel_rfl
theorem Za9.l0_eq (x1:Int) (x2:Int) (fx3:(List Int)→Option Int) (x16:Int) (x17:Int) (b0_0:List (List Int)) (b1_0:Int) (b2_0:Int) (r3:List Int):Za9.l0 x1 x2 fx3 x16 x17 b0_0 b1_0 b2_0 r3=if x17 < x16 then((ZaQ.f b0_0 x2 x17).bind fun t27=>(fx3 t27).bind fun t28=>if x1=0 then none else(if x1=0 then none else(if 0≤x17 then(if x17 < (r3.length:Int)then(if 0≤x17 then(if x17 < (r3.length:Int)then(Za9.l0 x1 x2 fx3 x16 (wrapI (x17+1)) b0_0 b1_0 b2_0 (r3.set (x17:Int).toNat ((wrapI (((t28:Int).tmod x1)+x1):Int).tmod x1)))else none)else none)else none)else none)))else(some (b2_0,r3)):=(Zt _ _ _ _).trans (by kernel_rfl)
noncomputable def Za9.con:Con:=⟨Za9.fn.ins,Za9.fn.outs,Int×(List Int),fun x=>Za9.f x.1 x.2.1 x.2.2.1 (fun z0=>x.2.2.2.1 (z0,())),fun r=>((r.1,r.2,()),(()))⟩
theorem Za9.valid:Valid Tryz.prog 249 Za9.con:=fnV Za9.fn Za9.E Za9.enc ⟨ttOk,(Ze Zbj.valid (Ze ZaQ.valid Zap))⟩ Tryz.func249
end Go.Proofs.YthmcpmnhdbeahaaGreat.P
namespace Go.Proofs.YthmcpmnhdbeahaaGreat.P
open Go Go.RowKit Go.Proofs.YthmcpmnhdbeahaaGreat.D
noncomputable def Za6.E:Env:={ tt:=TT,con:=[(139,Z7.con)],frz:=[],rows:=[],live:=[(3,[2,5,8,9,10])],n:=26,pin:=0,nils:=[] }
noncomputable def Za6.fn:D.Fn:={ body:=Tryz.f257.body.getD .skip,res:=Tryz.f257.results.toList,ins:=[.agg [.v (.sl 27 (.sl 2 (.int .i64)))],.one (.v (.sl 2 (.int .i64)))],outs:=[.one (.v (.int .i64))] }
def Za6.enc (y:lsd (flats Za6.fn.outs)×lsd (ios Za6.fn.ins)):Int:=y.1.1
noncomputable def Za6.f (l0_0:List (List Int)) (l1:List Int):Option Int:=denF Za6.E Za6.fn Za6.enc (l0_0,l1,())
noncomputable def Za6.l0 (x5:Int) (x8:List Int) (x9:Int) (x10:Int) (b0_0:List (List Int)):Option Int:=denAt Za6.E Za6.fn Za6.enc [1,1,0,1,0] { fr:=[(2,.lf (.box 0 0)),(5,.lf (.int .i64 x5)),(8,.lf (.sl (.int .i64) x8)),(9,.lf (.int .i64 x9)),(10,.lf (.int .i64 x10))],ob:=[(0,.box 26 false [.sl (.sl 2 (.int .i64)) b0_0])],nx:=1 }
theorem Za6.f_eq (l0_0:List (List Int)) (l1:List Int):Za6.f l0_0 l1=Za6.l0 0 l1 (l1.length:Int) 0 l0_0:=by kernel_rfl
theorem Za6.l0_eq (x5:Int) (x8:List Int) (x9:Int) (x10:Int) (b0_0:List (List Int)):Za6.l0 x5 x8 x9 x10 b0_0=if x10 < x9 then(if 0≤x10 then(if x10 < (x8.length:Int)then(if(rd x8 x10)=0 then(some (-1))else((Z7.f b0_0).bind fun t18=>Za6.l0 (wrapI ((wrapI ((wrapI (x5*(wrapI (t18 - 1))))+(rd x8 x10))) - 1)) x8 x9 (wrapI (x10+1)) b0_0))else none)else none)else(some x5):=(Zt _ _ _ _).trans (by kernel_rfl)
noncomputable def Za6.con:Con:=⟨Za6.fn.ins,Za6.fn.outs,Int,fun x=>Za6.f x.1 x.2.1,fun r=>((r,()),(()))⟩
theorem Za6.valid:Valid Tryz.prog 257 Za6.con:=fnV Za6.fn Za6.E Za6.enc ⟨ttOk,(Ze Z7.valid Zap)⟩ Tryz.func257
end Go.Proofs.YthmcpmnhdbeahaaGreat.P
namespace Go.Proofs.YthmcpmnhdbeahaaGreat.P
open Go Go.RowKit Go.Proofs.YthmcpmnhdbeahaaGreat.D
noncomputable def Zax.E:Env:={ tt:=TT,con:=[(257,Za6.con)],frz:=[],rows:=[],live:=[],n:=18,pin:=0,nils:=[] }
noncomputable def Zax.fn:D.Fn:={ body:=Tryz.f205.body.getD .skip,res:=Tryz.f205.results.toList,ins:=[.agg [.v (.int .i64),.v (.sl 2 (.int .i64))],.agg [.v (.sl 27 (.sl 2 (.int .i64)))],.one (.v (.sl 2 (.int .i64)))],outs:=[.one (.v (.int .i64))] }
def Zax.enc (y:lsd (flats Zax.fn.outs)×lsd (ios Zax.fn.ins)):Int:=y.1.1
noncomputable def Zax.f (a0_0:Int) (l0_1:List Int) (l1_0:List (List Int)) (l2:List Int):Option Int:=denF Zax.E Zax.fn Zax.enc (a0_0,l0_1,l1_0,l2,())
theorem Zax.f_eq (a0_0:Int) (l0_1:List Int) (l1_0:List (List Int)) (l2:List Int):Zax.f a0_0 l0_1 l1_0 l2=(Za6.f l1_0 l2).bind fun t10=>if t10≥0 then(if 0≤t10 then(if t10 < (l0_1.length:Int)then(some (rd l0_1 t10))else none)else none)else(some 0):=by kernel_rfl
noncomputable def Zax.con:Con:=⟨Zax.fn.ins,Zax.fn.outs,Int,fun x=>Zax.f x.1 x.2.1 x.2.2.1 x.2.2.2.1,fun r=>((r,()),(()))⟩
theorem Zax.valid:Valid Tryz.prog 205 Zax.con:=fnV Zax.fn Zax.E Zax.enc ⟨ttOk,(Ze Za6.valid Zap)⟩ Tryz.func205
end Go.Proofs.YthmcpmnhdbeahaaGreat.P
namespace Go.Proofs.YthmcpmnhdbeahaaGreat.P
open Go Go.RowKit Go.Proofs.YthmcpmnhdbeahaaGreat.D
noncomputable def Z4.E:Env:={ tt:=TT,con:=[(205,Zax.con),(172,ZH.con)],frz:=[],rows:=[],live:=[(5,[3,4,6,9,10,11,30,31])],n:=79,pin:=0,nils:=[] }
noncomputable def Z4.fn:D.Fn:={ body:=Tryz.f251.body.getD .skip,res:=Tryz.f251.results.toList,ins:=[.agg [.v (.sl 27 (.sl 2 (.int .i64)))],.agg [.v (.int .i64),.v (.sl 2 (.int .i64))],.agg [.v (.int .i64),.v (.sl 2 (.int .i64))],.one (.v (.sl 2 (.int .i64)))],outs:=[.one (.v (.int .i64))] }
def Z4.enc (y:lsd (flats Z4.fn.outs)×lsd (ios Z4.fn.ins)):Int:=y.1.1
noncomputable def Z4.f (l0_0:List (List Int)) (a1_0:Int) (l1_1:List Int) (a2_0:Int) (l2_1:List Int) (l3:List Int):Option Int:=denF Z4.E Z4.fn Z4.enc (l0_0,a1_0,l1_1,a2_0,l2_1,l3,())
noncomputable def Z4.l0 (x3:List Int) (x9:Int) (x10:Int) (x11:Int) (x30:Int) (x31:Int) (b0_0:List (List Int)) (b1_0:Int) (b1_1:List Int):Option Int:=denAt Z4.E Z4.fn Z4.enc [1,1,1,1,0,1,0] { fr:=[(3,.lf (.sl (.int .i64) x3)),(4,.lf (.box 0 0)),(6,.lf (.box 1 0)),(9,.lf (.int .i64 x9)),(10,.lf (.int .i64 x10)),(11,.lf (.int .i64 x11)),(30,.lf (.int .i64 x30)),(31,.lf (.int .i64 x31))],ob:=[(0,.box 26 false [.sl (.sl 2 (.int .i64)) b0_0]),(1,.box 56 false [.int .i64 b1_0,.sl (.int .i64) b1_1])],nx:=2 }
theorem Z4.f_eq (l0_0:List (List Int)) (a1_0:Int) (l1_1:List Int) (a2_0:Int) (l2_1:List Int) (l3:List Int):Z4.f l0_0 a1_0 l1_1 a2_0 l2_1 l3=if 0 < (l3.length:Int)then(if 0≤rd l3 0 then(if rd l3 0 < (l1_1.length:Int)then(if 1≤(l3.length:Int)then((Zax.f a2_0 l2_1 l0_0 (l3.drop (1:Int).toNat)).bind fun t28=>Z4.l0 l3 (wrapI ((l3.length:Int) - 1)) (wrapI ((rd l1_1 (rd l3 0))*t28)) (-1) (wrapI ((l3.length:Int) - 1)) 0 l0_0 a2_0 l2_1)else none)else none)else none)else none:=by kernel_rfl
theorem Z4.l0_eq (x3:List Int) (x9:Int) (x10:Int) (x11:Int) (x30:Int) (x31:Int) (b0_0:List (List Int)) (b1_0:Int) (b1_1:List Int):Z4.l0 x3 x9 x10 x11 x30 x31 b0_0 b1_0 b1_1=if x31 < x30 then(if 0≤x31 then(if x31≤(x3.length:Int)then(if([]:List Int).length+(x3.take (x31:Int).toNat).length≤17592186044416 then(if 0≤x31 then(if x31 < (x3.length:Int)then(if 0≤wrapI (x31+1)then(if wrapI (x31+1) < (x3.length:Int)then((ZH.f b0_0 ([rd x3 x31,rd x3 (wrapI (x31+1))]:List Int)).bind fun t50=>if(([]:List Int)++(x3.take (x31:Int).toNat)).length+([t50]:List Int).length≤17592186044416 then(if 0≤wrapI (x31+2)then(if wrapI (x31+2)≤(x3.length:Int)then(if((([]:List Int)++(x3.take (x31:Int).toNat))++([t50]:List Int)).length+(x3.drop (wrapI (x31+2):Int).toNat).length≤17592186044416 then((Zax.f b1_0 b1_1 b0_0 (((([]:List Int)++(x3.take (x31:Int).toNat))++([t50]:List Int))++(x3.drop (wrapI (x31+2):Int).toNat))).bind fun t63=>Z4.l0 x3 x9 (wrapI (x10+(wrapI (x11*t63)))) (wrapI (0 - x11)) x30 (wrapI (x31+1)) b0_0 b1_0 b1_1)else none)else none)else none)else none)else none)else none)else none)else none)else none)else none)else none)else(if 0≤x9 then(if x9≤(x3.length:Int)then((Zax.f b1_0 b1_1 b0_0 (x3.take (x9:Int).toNat)).bind fun t76=>some (wrapI (x10+(wrapI (x11*t76)))))else none)else none):=(Zt _ _ _ _).trans (by kernel_rfl)
noncomputable def Z4.con:Con:=⟨Z4.fn.ins,Z4.fn.outs,Int,fun x=>Z4.f x.1 x.2.1 x.2.2.1 x.2.2.2.1 x.2.2.2.2.1 x.2.2.2.2.2.1,fun r=>((r,()),(()))⟩
theorem Z4.valid:Valid Tryz.prog 251 Z4.con:=fnV Z4.fn Z4.E Z4.enc ⟨ttOk,(Ze Zax.valid (Ze ZH.valid Zap))⟩ Tryz.func251
end Go.Proofs.YthmcpmnhdbeahaaGreat.P
namespace Go.Proofs.YthmcpmnhdbeahaaGreat.P
open Go Go.RowKit Go.Proofs.YthmcpmnhdbeahaaGreat.D
noncomputable def ZaD.E:Env:={ tt:=TT,con:=[(251,Z4.con)],frz:=[],rows:=[],live:=[],n:=11,pin:=0,nils:=[] }
noncomputable def ZaD.fn:D.Fn:={ body:=Tryz.f250.body.getD .skip,res:=Tryz.f250.results.toList,ins:=[.one (.v (.sl 2 (.int .i64))),.ptr true 26 [.v (.sl 27 (.sl 2 (.int .i64)))],.ptr true 29 [.v (.int .i64),.v (.sl 2 (.int .i64))],.ptr true 56 [.v (.int .i64),.v (.sl 2 (.int .i64))]],outs:=[.one (.v (.int .i64))] }
def ZaD.enc (y:lsd (flats ZaD.fn.outs)×lsd (ios ZaD.fn.ins)):Int:=y.1.1
noncomputable def ZaD.f (l0:List Int) (l1:List (List Int)) (a2_0:Int) (l2_1:List Int) (a3_0:Int) (l3_1:List Int):Option Int:=denF ZaD.E ZaD.fn ZaD.enc (l0,l1,a2_0,l2_1,a3_0,l3_1,())
theorem ZaD.f_eq (l0:List Int) (l1:List (List Int)) (a2_0:Int) (l2_1:List Int) (a3_0:Int) (l3_1:List Int):ZaD.f l0 l1 a2_0 l2_1 a3_0 l3_1=(Z4.f l1 a2_0 l2_1 a3_0 l3_1 l0).bind fun t10=>some t10:=by kernel_rfl
noncomputable def ZaD.con:Con:=⟨ZaD.fn.ins,ZaD.fn.outs,Int,fun x=>ZaD.f x.1 x.2.1 x.2.2.1 x.2.2.2.1 x.2.2.2.2.1 x.2.2.2.2.2.1,fun r=>((r,()),(()))⟩
theorem ZaD.valid:Valid Tryz.prog 250 ZaD.con:=fnV ZaD.fn ZaD.E ZaD.enc ⟨ttOk,(Ze Z4.valid Zap)⟩ Tryz.func250
end Go.Proofs.YthmcpmnhdbeahaaGreat.P
namespace Go.Proofs.YthmcpmnhdbeahaaGreat.P
open Go Go.RowKit Go.Proofs.YthmcpmnhdbeahaaGreat.D
noncomputable def ZaO.E:Env:={ tt:=TT,con:=[(249,Za9.con),(250,ZaD.con)],frz:=[],rows:=[],live:=[],n:=15,pin:=0,nils:=[] }
noncomputable def ZaO.fn:D.Fn:={ body:=Tryz.f192.body.getD .skip,res:=Tryz.f192.results.toList,ins:=[.agg [.v (.sl 27 (.sl 2 (.int .i64)))],.agg [.v (.int .i64),.v (.sl 2 (.int .i64))],.agg [.v (.int .i64),.v (.sl 2 (.int .i64))]],outs:=[.agg [.v (.int .i64),.own 2 true (.int .i64)]] }
def ZaO.enc (y:lsd (flats ZaO.fn.outs)×lsd (ios ZaO.fn.ins)):Int×(List Int):=(y.1.1,y.1.2.1)
noncomputable def ZaO.f (l0_0:List (List Int)) (a1_0:Int) (l1_1:List Int) (a2_0:Int) (l2_1:List Int):Option (Int×(List Int)):=denF ZaO.E ZaO.fn ZaO.enc (l0_0,a1_0,l1_1,a2_0,l2_1,())
theorem ZaO.f_eq (l0_0:List (List Int)) (a1_0:Int) (l1_1:List Int) (a2_0:Int) (l2_1:List Int):ZaO.f l0_0 a1_0 l1_1 a2_0 l2_1=(Za9.f l0_0 a1_0 (wrapI (a2_0+1)) (fun z0=>(ZaD.f z0 l0_0 a1_0 l1_1 a2_0 l2_1).map fun z=>z)).bind fun t14=>some (t14.1,t14.2):=by kernel_rfl
noncomputable def ZaO.con:Con:=⟨ZaO.fn.ins,ZaO.fn.outs,Int×(List Int),fun x=>ZaO.f x.1 x.2.1 x.2.2.1 x.2.2.2.1 x.2.2.2.2.1,fun r=>((r.1,r.2,()),(()))⟩
theorem ZaO.valid:Valid Tryz.prog 192 ZaO.con:=fnV ZaO.fn ZaO.E ZaO.enc ⟨ttOk,(Ze Za9.valid (Ze ZaD.valid Zap))⟩ Tryz.func192
end Go.Proofs.YthmcpmnhdbeahaaGreat.P
namespace Go.Proofs.YthmcpmnhdbeahaaGreat.P
open Go Go.RowKit Go.Proofs.YthmcpmnhdbeahaaGreat.D
noncomputable def ZaU.E:Env:={ tt:=TT,con:=[],frz:=[],rows:=[7],live:=[],n:=10,pin:=0,nils:=[7] }
noncomputable def ZaU.fn:D.Fn:={ body:=Tryz.f227.body.getD .skip,res:=Tryz.f227.results.toList,ins:=[.one (.v (.int .i64)),.one (.v (.int .i64))],outs:=[.ptr false 187 [.v (.int .i64),.own 27 false (.sl 1000002 (.int .i64))]] }
def ZaU.enc (y:lsd (flats ZaU.fn.outs)×lsd (ios ZaU.fn.ins)):Int×(List (List Int)):=(y.1.1,y.1.2.1)
noncomputable def ZaU.f (a0:Int) (a1:Int):Option (Int×(List (List Int))):=denF ZaU.E ZaU.fn ZaU.enc (a0,a1,())
theorem ZaU.f_eq (a0:Int) (a1:Int):ZaU.f a0 a1=if a1=a1 then(if 0≤a1 then(if(a1:Int).toNat≤5864062014805 then(some (a0,List.replicate (a1:Int).toNat ([]:List Int)))else none)else none)else none:=by kernel_rfl
noncomputable def ZaU.con:Con:=⟨ZaU.fn.ins,ZaU.fn.outs,Int×(List (List Int)),fun x=>ZaU.f x.1 x.2.1,fun r=>((r.1,r.2,()),(()))⟩
theorem ZaU.valid:Valid Tryz.prog 227 ZaU.con:=fnV ZaU.fn ZaU.E ZaU.enc ⟨ttOk,Zap⟩ Tryz.func227
end Go.Proofs.YthmcpmnhdbeahaaGreat.P
namespace Go.Proofs.YthmcpmnhdbeahaaGreat.P
open Go Go.RowKit Go.Proofs.YthmcpmnhdbeahaaGreat.D
noncomputable def Zm.E:Env:={ tt:=TT,con:=[],frz:=[],rows:=[],live:=[(3,[0,1,3,4,11,17,18,19])],n:=54,pin:=0,nils:=[] }
noncomputable def Zm.fn:D.Fn:={ body:=Tryz.f247.body.getD .skip,res:=Tryz.f247.results.toList,ins:=[.ptr true 187 [.v (.int .i64),.v (.sl 27 (.sl 1000002 (.int .i64)))],.one (.v (.int .i64)),.one (.v (.sl 2 (.int .i64))),.one (.v (.int .i64)),.one (.v (.sl 2 (.int .i64)))],outs:=[.one (.own 2 true (.int .i64))] }
def Zm.enc (y:lsd (flats Zm.fn.outs)×lsd (ios Zm.fn.ins)):(List Int):=y.1.1
noncomputable def Zm.f (a0_0:Int) (l0_1:List (List Int)) (a1:Int) (l2:List Int) (a3:Int) (l4:List Int):Option (List Int):=denF Zm.E Zm.fn Zm.enc (a0_0,l0_1,a1,l2,a3,l4,())
noncomputable def Zm.l0 (x1:Int) (x3:Int) (x4:List Int) (x17:List Int) (x18:Int) (x19:Int) (b0_0:Int) (b0_1:List (List Int)) (r1:List Int):Option (List Int):=denAt Zm.E Zm.fn Zm.enc [1,1,0,1,0] { fr:=[(0,.lf (.box 0 0)),(1,.lf (.int .i64 x1)),(3,.lf (.int .i64 x3)),(4,.lf (.sl (.int .i64) x4)),(11,.lf (.own 1)),(17,.lf (.sl (.int .i64) x17)),(18,.lf (.int .i64 x18)),(19,.lf (.int .i64 x19))],ob:=[(0,.box 187 true [.int .i64 b0_0,.sl (.sl 1000002 (.int .i64)) b0_1]),(1,.row 2 true (.int .i64) r1)],nx:=2 }
theorem Zm.f_eq (a0_0:Int) (l0_1:List (List Int)) (a1:Int) (l2:List Int) (a3:Int) (l4:List Int):Zm.f a0_0 l0_1 a1 l2 a3 l4=if(l2.length:Int)=(l2.length:Int)then(if 0≤(l2.length:Int)then(if((l2.length:Int):Int).toNat≤17592186044416 then(Zm.l0 a1 a3 l4 l2 (l2.length:Int) 0 a0_0 l0_1 (List.replicate ((l2.length:Int):Int).toNat (0:Int)))else none)else none)else none:=by kernel_rfl
theorem Zm.l0_eq (x1:Int) (x3:Int) (x4:List Int) (x17:List Int) (x18:Int) (x19:Int) (b0_0:Int) (b0_1:List (List Int)) (r1:List Int):Zm.l0 x1 x3 x4 x17 x18 x19 b0_0 b0_1 r1=if x19 < x18 then(if 0≤x19 then(if x19 < (x17.length:Int)then(if 0≤x19 then(if x19 < (x4.length:Int)then(if b0_0=0 then none else(if b0_0=0 then none else(if 0≤x19 then(if x19 < (r1.length:Int)then(if 0≤x19 then(if x19 < (r1.length:Int)then(Zm.l0 x1 x3 x4 x17 x18 (wrapI (x19+1)) b0_0 b0_1 (r1.set (x19:Int).toNat ((wrapI (((wrapI ((wrapI (x1*(rd x17 x19)))+(wrapI (x3*(rd x4 x19)))):Int).tmod b0_0)+b0_0):Int).tmod b0_0)))else none)else none)else none)else none)))else none)else none)else none)else none)else(some r1):=(Zt _ _ _ _).trans (by kernel_rfl)
noncomputable def Zm.con:Con:=⟨Zm.fn.ins,Zm.fn.outs,(List Int),fun x=>Zm.f x.1 x.2.1 x.2.2.1 x.2.2.2.1 x.2.2.2.2.1 x.2.2.2.2.2.1,fun r=>((r,()),(()))⟩
theorem Zm.valid:Valid Tryz.prog 247 Zm.con:=fnV Zm.fn Zm.E Zm.enc ⟨ttOk,Zap⟩ Tryz.func247
end Go.Proofs.YthmcpmnhdbeahaaGreat.P
namespace Go.Proofs.YthmcpmnhdbeahaaGreat.P
open Go Go.RowKit Go.Proofs.YthmcpmnhdbeahaaGreat.D
noncomputable def Zaz.E:Env:={ tt:=TT,con:=[],frz:=[],rows:=[],live:=[],n:=5,pin:=0,nils:=[] }
noncomputable def Zaz.fn:D.Fn:={ body:=Tryz.f266.body.getD .skip,res:=Tryz.f266.results.toList,ins:=[.one (.v (.int .i64))],outs:=[.one (.v .bool)] }
def Zaz.enc (y:lsd (flats Zaz.fn.outs)×lsd (ios Zaz.fn.ins)):Bool:=y.1.1
noncomputable def Zaz.f (a0:Int):Option Bool:=denF Zaz.E Zaz.fn Zaz.enc (a0,())
theorem Zaz.f_eq (a0:Int):Zaz.f a0=some (!decide (a0=0)):=by kernel_rfl
noncomputable def Zaz.con:Con:=⟨Zaz.fn.ins,Zaz.fn.outs,Bool,fun x=>Zaz.f x.1,fun r=>((r,()),(()))⟩
theorem Zaz.valid:Valid Tryz.prog 266 Zaz.con:=fnV Zaz.fn Zaz.E Zaz.enc ⟨ttOk,Zap⟩ Tryz.func266
end Go.Proofs.YthmcpmnhdbeahaaGreat.P
namespace Go.Proofs.YthmcpmnhdbeahaaGreat.P
open Go Go.RowKit Go.Proofs.YthmcpmnhdbeahaaGreat.D
noncomputable def Zk.E:Env:={ tt:=TT,con:=[(152,Zbc.con)],frz:=[],rows:=[],live:=[(3,[0,1,2,9,23,24]),(6,[0,1,2,9,10,23,24,30,31])],n:=55,pin:=0,nils:=[] }
noncomputable def Zk.fn:D.Fn:={ body:=Tryz.f267.body.getD .skip,res:=Tryz.f267.results.toList,ins:=[.ptr true 187 [.v (.int .i64),.v (.sl 27 (.sl 1000002 (.int .i64)))],.one (.v (.int .i64)),.one (.v (.int .i64))],outs:=[.one (.v (.int .i64)),.one (.v (.int .i64)),.one (.v (.int .i64))] }
def Zk.enc (y:lsd (flats Zk.fn.outs)×lsd (ios Zk.fn.ins)):Int×Int×Int:=(y.1.1,y.1.2.1,y.1.2.2.1)
noncomputable def Zk.f (a0_0:Int) (l0_1:List (List Int)) (a1:Int) (a2:Int):Option (Int×Int×Int):=denF Zk.E Zk.fn Zk.enc (a0_0,l0_1,a1,a2,())
noncomputable def Zk.l0 (x1:Int) (x2:Int) (x9:Int) (x23:Int) (x24:Int) (b0_0:Int) (b0_1:List (List Int)):Option (Int×Int×Int):=denAt Zk.E Zk.fn Zk.enc [1,1,0,1,0] { fr:=[(0,.lf (.box 0 0)),(1,.lf (.int .i64 x1)),(2,.lf (.int .i64 x2)),(9,.lf (.int .i64 x9)),(23,.lf (.int .i64 x23)),(24,.lf (.int .i64 x24))],ob:=[(0,.box 187 true [.int .i64 b0_0,.sl (.sl 1000002 (.int .i64)) b0_1])],nx:=1 }
noncomputable def Zk.l1 (x1:Int) (x2:Int) (x9:Int) (x10:Int) (x23:Int) (x24:Int) (x30:Int) (x31:Int) (b0_0:Int) (b0_1:List (List Int)):Option (Int×Int×Int):=denAt Zk.E Zk.fn Zk.enc [1,1,0,1,0,0,1,1,0,0,1,1,0] { fr:=[(0,.lf (.box 0 0)),(1,.lf (.int .i64 x1)),(2,.lf (.int .i64 x2)),(9,.lf (.int .i64 x9)),(10,.lf (.int .i64 x10)),(23,.lf (.int .i64 x23)),(24,.lf (.int .i64 x24)),(30,.lf (.int .i64 x30)),(31,.lf (.int .i64 x31))],ob:=[(0,.box 187 true [.int .i64 b0_0,.sl (.sl 1000002 (.int .i64)) b0_1])],nx:=1 }
theorem Zk.f_eq (a0_0:Int) (l0_1:List (List Int)) (a1:Int) (a2:Int):Zk.f a0_0 l0_1 a1 a2=(Zbc.f a1 a2).bind fun t14=>(Zbc.f t14 a0_0).bind fun t19=>Zk.l0 a1 a2 t19 a0_0 0 a0_0 l0_1:=by kernel_rfl
theorem Zk.l0_eq (x1:Int) (x2:Int) (x9:Int) (x23:Int) (x24:Int) (b0_0:Int) (b0_1:List (List Int)):Zk.l0 x1 x2 x9 x23 x24 b0_0 b0_1=if x24 < x23 then(Zk.l1 x1 x2 x9 x24 x23 x24 b0_0 0 b0_0 b0_1)else(some (0,0,x9)):=(Zt _ _ _ _).trans (by kernel_rfl)
theorem Zk.l1_eq (x1:Int) (x2:Int) (x9:Int) (x10:Int) (x23:Int) (x24:Int) (x30:Int) (x31:Int) (b0_0:Int) (b0_1:List (List Int)):Zk.l1 x1 x2 x9 x10 x23 x24 x30 x31 b0_0 b0_1=if x31 < x30 then(if b0_0=0 then none else(if((wrapI ((wrapI ((wrapI (x10*x1))+(wrapI (x31*x2)))) - x9):Int).tmod b0_0)=0 then(some (x10,x31,x9))else(Zk.l1 x1 x2 x9 x10 x23 x24 x30 (wrapI (x31+1)) b0_0 b0_1)))else(Zk.l0 x1 x2 x9 x23 (wrapI (x24+1)) b0_0 b0_1):=(Zt _ _ _ _).trans (by kernel_rfl)
noncomputable def Zk.con:Con:=⟨Zk.fn.ins,Zk.fn.outs,Int×Int×Int,fun x=>Zk.f x.1 x.2.1 x.2.2.1 x.2.2.2.1,fun r=>((r.1,r.2.1,r.2.2,()),(()))⟩
theorem Zk.valid:Valid Tryz.prog 267 Zk.con:=fnV Zk.fn Zk.E Zk.enc ⟨ttOk,(Ze Zbc.valid Zap)⟩ Tryz.func267
end Go.Proofs.YthmcpmnhdbeahaaGreat.P
namespace Go.Proofs.YthmcpmnhdbeahaaGreat.P
open Go Go.RowKit Go.Proofs.YthmcpmnhdbeahaaGreat.D
noncomputable def Zp.E:Env:={ tt:=TT,con:=[(219,Za.con),(266,Zaz.con),(267,Zk.con),(247,Zm.con)],frz:=[43,75,97,116,127,137],rows:=[13,76,138],live:=[(1,[0,4]),(9,[0,4,5,6,7])],n:=140,pin:=1,nils:=[] }
noncomputable def Zp.fn:D.Fn:={ body:=Tryz.f229.body.getD .skip,res:=Tryz.f229.results.toList,ins:=[.ptr false 187 [.v (.int .i64),.own 27 false (.sl 1000002 (.int .i64))],.one (.v (.sl 2 (.int .i64)))],outs:=[] }
def Zp.enc (y:lsd (flats Zp.fn.outs)×lsd (ios Zp.fn.ins)):Int×(List (List Int)):=(y.2.1,y.2.2.1)
noncomputable def Zp.f (a0_0:Int) (l0_1:List (List Int)) (l1:List Int):Option (Int×(List (List Int))):=denF Zp.E Zp.fn Zp.enc (a0_0,l0_1,l1,())
noncomputable def Zp.l0 (b0_0:Int) (r1:List (List Int)) (r2:List (List Int)):Option (Int×(List (List Int))):=denAt Zp.E Zp.fn Zp.enc [1,0] { fr:=[(0,.lf (.box 0 0)),(4,.lf (.own 2))],ob:=[(0,.box 187 false [.int .i64 b0_0,.own 1]),(1,.row 27 false (.sl 1000002 (.int .i64)) r1),(2,.row 27 false (.sl 2 (.int .i64)) r2)],nx:=3 }
noncomputable def Zp.j1 (x5:List Int) (x6:Int) (x7:List Int) (b0_0:Int) (r1:List (List Int)) (r2:List (List Int)):Option (Int×(List (List Int))):=denAt Zp.E Zp.fn Zp.enc [1,0,0,1,0,1,1,1,1,1,1] { fr:=[(0,.lf (.box 0 0)),(4,.lf (.own 2)),(5,.lf (.sl (.int .i64) x5)),(6,.lf (.int .i64 x6)),(7,.lf (.sl (.int .i64) x7))],ob:=[(0,.box 187 false [.int .i64 b0_0,.own 1]),(1,.row 27 false (.sl 1000002 (.int .i64)) r1),(2,.row 27 false (.sl 2 (.int .i64)) r2)],nx:=3 }
theorem Zp.f_eq (a0_0:Int) (l0_1:List (List Int)) (l1:List Int):Zp.f a0_0 l0_1 l1=Zp.l0 a0_0 l0_1 ([l1]:List (List Int)):=by kernel_rfl
theorem Zp.l0_eq (b0_0:Int) (r1:List (List Int)) (r2:List (List Int)):Zp.l0 b0_0 r1 r2=if(r2.length:Int) > 0 then(if 0≤wrapI ((r2.length:Int) - 1)then(if wrapI ((r2.length:Int) - 1) < (r2.length:Int)then(if 0≤wrapI ((r2.length:Int) - 1)then(if wrapI ((r2.length:Int) - 1) < (r2.length:Int)then(if 0 < (r2.length:Int)then(if 0≤wrapI ((r2.length:Int) - 1)then(if wrapI ((r2.length:Int) - 1)≤(r2.length:Int)then((Za.f (row r2 (wrapI ((r2.length:Int) - 1))) (fun z0=>(Zaz.f z0).map fun z=>z)).bind fun t29=>if t29 < 0 then(Zp.l0 b0_0 r1 (r2.take (wrapI ((r2.length:Int) - 1):Int).toNat))else(if 0≤t29 then(if t29 < (r1.length:Int)then(if 0≤t29 then(if t29 < (r1.length:Int)then(if(row r1 t29).length=0 then(if((row r2 (wrapI ((r2.length:Int) - 1))).length:Int)=((row r2 (wrapI ((r2.length:Int) - 1))).length:Int)then(if 0≤((row r2 (wrapI ((r2.length:Int) - 1))).length:Int)then(if(((row r2 (wrapI ((r2.length:Int) - 1))).length:Int):Int).toNat≤17592186044416 then(Zp.j1 (row r2 (wrapI ((r2.length:Int) - 1))) t29 (List.replicate (((row r2 (wrapI ((r2.length:Int) - 1))).length:Int):Int).toNat (0:Int)) b0_0 r1 (r2.take (wrapI ((r2.length:Int) - 1):Int).toNat))else none)else none)else none)else(if 0 < (row r1 t29).length then(Zp.j1 (row r2 (wrapI ((r2.length:Int) - 1))) t29 (row r1 t29) b0_0 r1 (r2.take (wrapI ((r2.length:Int) - 1):Int).toNat))else none))else none)else none)else none)else none))else none)else none)else none)else none)else none)else none)else none)else(some (b0_0,r1)):=(Zt _ _ _ _).trans (by kernel_rfl)
theorem Zp.j1_eq (x5:List Int) (x6:Int) (x7:List Int) (b0_0:Int) (r1:List (List Int)) (r2:List (List Int)):Zp.j1 x5 x6 x7 b0_0 r1 r2=if 0≤x6 then(if x6 < (x7.length:Int)then(if(rd x7 x6)=0 then(if 0≤x6 then(if x6 < (x7.length:Int)then(if 0≤x6 then(if x6 < (x5.length:Int)then((Zk.f b0_0 r1 (rd x7 x6) (rd x5 x6)).bind fun t88=>(Zm.f b0_0 r1 t88.1 x7 t88.2.1 x5).bind fun t97=>if 0≤x6 then(if x6 < (r1.length:Int)then(if 0≤x6 then(if x6 < (r1.length:Int)then(if 0 < t97.length then(if 0≤x6 then(if x6 < (x7.length:Int)then(if t88.2.2=0 then none else((Zm.f b0_0 (r1.set (x6:Int).toNat t97) 1 x7 (wrapI ((wrapI (0 - (rd x7 x6)):Int).tdiv t88.2.2)) t97).bind fun t116=>if 0≤x6 then(if x6 < (x5.length:Int)then(if t88.2.2=0 then none else((Zm.f b0_0 (r1.set (x6:Int).toNat t97) 1 x5 (wrapI ((wrapI (0 - (rd x5 x6)):Int).tdiv t88.2.2)) t97).bind fun t127=>if t88.2.2=0 then none else((Zm.f b0_0 (r1.set (x6:Int).toNat t97) (wrapI ((b0_0:Int).tdiv t88.2.2)) t97 0 t97).bind fun t137=>if r2.length+([t116,t127,t137]:List (List Int)).length≤5864062014805 then(Zp.l0 b0_0 (r1.set (x6:Int).toNat t97) (r2++([t116,t127,t137]:List (List Int))))else none)))else none)else none))else none)else none)else none)else none)else none)else none)else none)else none)else none)else none)else none)else(if 0≤x6 then(if x6 < (x5.length:Int)then(if 0≤x6 then(if x6 < (x7.length:Int)then(if(rd x7 x6)=0 then none else(if((rd x5 x6:Int).tmod (rd x7 x6))=0 then(if 0≤x6 then(if x6 < (x5.length:Int)then(if 0≤x6 then(if x6 < (x7.length:Int)then(if(rd x7 x6)=0 then none else((Zm.f b0_0 r1 1 x5 (wrapI ((wrapI (0 - (rd x5 x6)):Int).tdiv (rd x7 x6))) x7).bind fun t75=>if r2.length+([t75]:List (List Int)).length≤5864062014805 then(Zp.l0 b0_0 r1 (r2++([t75]:List (List Int))))else none))else none)else none)else none)else none)else(if 0≤x6 then(if x6 < (x7.length:Int)then(if 0≤x6 then(if x6 < (x5.length:Int)then((Zk.f b0_0 r1 (rd x7 x6) (rd x5 x6)).bind fun t88=>(Zm.f b0_0 r1 t88.1 x7 t88.2.1 x5).bind fun t97=>if 0≤x6 then(if x6 < (r1.length:Int)then(if 0≤x6 then(if x6 < (r1.length:Int)then(if 0 < t97.length then(if 0≤x6 then(if x6 < (x7.length:Int)then(if t88.2.2=0 then none else((Zm.f b0_0 (r1.set (x6:Int).toNat t97) 1 x7 (wrapI ((wrapI (0 - (rd x7 x6)):Int).tdiv t88.2.2)) t97).bind fun t116=>if 0≤x6 then(if x6 < (x5.length:Int)then(if t88.2.2=0 then none else((Zm.f b0_0 (r1.set (x6:Int).toNat t97) 1 x5 (wrapI ((wrapI (0 - (rd x5 x6)):Int).tdiv t88.2.2)) t97).bind fun t127=>if t88.2.2=0 then none else((Zm.f b0_0 (r1.set (x6:Int).toNat t97) (wrapI ((b0_0:Int).tdiv t88.2.2)) t97 0 t97).bind fun t137=>if r2.length+([t116,t127,t137]:List (List Int)).length≤5864062014805 then(Zp.l0 b0_0 (r1.set (x6:Int).toNat t97) (r2++([t116,t127,t137]:List (List Int))))else none)))else none)else none))else none)else none)else none)else none)else none)else none)else none)else none)else none)else none)else none)))else none)else none)else none)else none))else none)else none:=by kernel_rfl
noncomputable def Zp.con:Con:=⟨Zp.fn.ins,Zp.fn.outs,Int×(List (List Int)),fun x=>Zp.f x.1 x.2.1 x.2.2.1,fun r=>((()),(r.1,r.2,()))⟩
theorem Zp.valid:Valid Tryz.prog 229 Zp.con:=fnV Zp.fn Zp.E Zp.enc ⟨ttOk,(Ze Za.valid (Ze Zaz.valid (Ze Zk.valid (Ze Zm.valid Zap))))⟩ Tryz.func229
end Go.Proofs.YthmcpmnhdbeahaaGreat.P
namespace Go.Proofs.YthmcpmnhdbeahaaGreat.P
open Go Go.RowKit Go.Proofs.YthmcpmnhdbeahaaGreat.D
noncomputable def ZaA.E:Env:={ tt:=TT,con:=[(228,ZaZ.con),(227,ZaU.con),(211,Zbj.con),(192,ZaO.con),(137,Zf.con),(229,Zp.con)],frz:=[46],rows:=[],live:=[(5,[2,3,4,8,10,26,27])],n:=51,pin:=0,nils:=[] }
noncomputable def ZaA.fn:D.Fn:={ body:=Tryz.f223.body.getD .skip,res:=Tryz.f223.results.toList,ins:=[.agg [.v (.sl 27 (.sl 2 (.int .i64)))],.agg [.v (.int .i64),.v (.sl 2 (.int .i64))],.one (.v (.int .i64))],outs:=[.ptr false 187 [.v (.int .i64),.own 27 false (.sl 1000002 (.int .i64))],.one (.v (.int .i64))] }
def ZaA.enc (y:lsd (flats ZaA.fn.outs)×lsd (ios ZaA.fn.ins)):Int×(List (List Int))×Int:=(y.1.1,y.1.2.1,y.1.2.2.1)
noncomputable def ZaA.f (l0_0:List (List Int)) (a1_0:Int) (l1_1:List Int) (a2:Int):Option (Int×(List (List Int))×Int):=denF ZaA.E ZaA.fn ZaA.enc (l0_0,a1_0,l1_1,a2,())
noncomputable def ZaA.l0 (x2:Int) (x8:Int) (x26:Int) (x27:Int) (b0_0:List (List Int)) (b1_0:Int) (b1_1:List Int) (b2_0:Int) (r3:List (List Int)):Option (Int×(List (List Int))×Int):=denAt ZaA.E ZaA.fn ZaA.enc [1,1,1,1,0,1,0] { fr:=[(2,.lf (.int .i64 x2)),(3,.lf (.box 0 0)),(4,.lf (.box 1 0)),(8,.lf (.int .i64 x8)),(10,.lf (.box 2 0)),(26,.lf (.int .i64 x26)),(27,.lf (.int .i64 x27))],ob:=[(0,.box 26 false [.sl (.sl 2 (.int .i64)) b0_0]),(1,.box 29 false [.int .i64 b1_0,.sl (.int .i64) b1_1]),(2,.box 187 false [.int .i64 b2_0,.own 3]),(3,.row 27 false (.sl 1000002 (.int .i64)) r3)],nx:=4 }
theorem ZaA.f_eq (l0_0:List (List Int)) (a1_0:Int) (l1_1:List Int) (a2:Int):ZaA.f l0_0 a1_0 l1_1 a2=(ZaZ.f l0_0 (wrapI (a2+1))).bind fun t16=>(ZaZ.f l0_0 a2).bind fun t19=>(ZaU.f a1_0 (wrapI (t16+t19))).bind fun t25=>ZaA.l0 a2 t16 t19 0 l0_0 a1_0 l1_1 t25.1 t25.2:=by kernel_rfl
theorem ZaA.l0_eq (x2:Int) (x8:Int) (x26:Int) (x27:Int) (b0_0:List (List Int)) (b1_0:Int) (b1_1:List Int) (b2_0:Int) (r3:List (List Int)):ZaA.l0 x2 x8 x26 x27 b0_0 b1_0 b1_1 b2_0 r3=if x27 < x26 then((Zbj.f b0_0 x2).bind fun t32=>if 0≤x27 then(if x27 < (t32.2.length:Int)then(if 0≤x27 then(if x27 < (t32.2.length:Int)then((ZaO.f b0_0 b1_0 b1_1 t32.1 (t32.2.set (x27:Int).toNat 1)).bind fun t41=>(Zf.f ([t41.2,t32.2.set (x27:Int).toNat 1]:List (List Int))).bind fun t46=>(Zp.f b2_0 r3 t46).bind fun t47=>ZaA.l0 x2 x8 x26 (wrapI (x27+1)) b0_0 b1_0 b1_1 t47.1 t47.2)else none)else none)else none)else none)else(some (b2_0,r3,x8)):=(Zt _ _ _ _).trans (by kernel_rfl)
noncomputable def ZaA.con:Con:=⟨ZaA.fn.ins,ZaA.fn.outs,Int×(List (List Int))×Int,fun x=>ZaA.f x.1 x.2.1 x.2.2.1 x.2.2.2.1,fun r=>((r.1,r.2.1,r.2.2,()),(()))⟩
theorem ZaA.valid:Valid Tryz.prog 223 ZaA.con:=fnV ZaA.fn ZaA.E ZaA.enc ⟨ttOk,(Ze ZaZ.valid (Ze ZaU.valid (Ze Zbj.valid (Ze ZaO.valid (Ze Zf.valid (Ze Zp.valid Zap))))))⟩ Tryz.func223
end Go.Proofs.YthmcpmnhdbeahaaGreat.P
namespace Go.Proofs.YthmcpmnhdbeahaaGreat.P
open Go Go.RowKit Go.Proofs.YthmcpmnhdbeahaaGreat.D
noncomputable def Zae.E:Env:={ tt:=TT,con:=[(227,ZaU.con)],frz:=[],rows:=[],live:=[(3,[0,1,5,6])],n:=55,pin:=1,nils:=[] }
noncomputable def Zae.fn:D.Fn:={ body:=Tryz.f224.body.getD .skip,res:=Tryz.f224.results.toList,ins:=[.ptr false 187 [.v (.int .i64),.own 27 false (.sl 1000002 (.int .i64))],.one (.v (.int .i64))],outs:=[.ptr false 187 [.v (.int .i64),.own 27 false (.sl 1000002 (.int .i64))]] }
def Zae.enc (y:lsd (flats Zae.fn.outs)×lsd (ios Zae.fn.ins)):Int×(List (List Int))×Int×(List (List Int)):=(y.1.1,y.1.2.1,y.2.1,y.2.2.1)
noncomputable def Zae.f (a0_0:Int) (l0_1:List (List Int)) (a1:Int):Option (Int×(List (List Int))×Int×(List (List Int))):=denF Zae.E Zae.fn Zae.enc (a0_0,l0_1,a1,())
noncomputable def Zae.l0 (x1:Int) (x6:Int) (b0_0:Int) (r1:List (List Int)) (b2_0:Int) (r3:List (List Int)):Option (Int×(List (List Int))×Int×(List (List Int))):=denAt Zae.E Zae.fn Zae.enc [1,1,0,1,0] { fr:=[(0,.lf (.box 0 0)),(1,.lf (.int .i64 x1)),(5,.lf (.box 2 0)),(6,.lf (.int .i64 x6))],ob:=[(0,.box 187 false [.int .i64 b0_0,.own 1]),(1,.row 27 false (.sl 1000002 (.int .i64)) r1),(2,.box 187 false [.int .i64 b2_0,.own 3]),(3,.row 27 false (.sl 1000002 (.int .i64)) r3)],nx:=4 }
theorem Zae.f_eq (a0_0:Int) (l0_1:List (List Int)) (a1:Int):Zae.f a0_0 l0_1 a1=(ZaU.f a0_0 (wrapI ((l0_1.length:Int) - a1))).bind fun t18=>Zae.l0 a1 a1 a0_0 l0_1 t18.1 t18.2:=by kernel_rfl
theorem Zae.l0_eq (x1:Int) (x6:Int) (b0_0:Int) (r1:List (List Int)) (b2_0:Int) (r3:List (List Int)):Zae.l0 x1 x6 b0_0 r1 b2_0 r3=if x6 < (r1.length:Int)then(if 0≤x6 then(if x6 < (r1.length:Int)then(if 0≤x6 then(if x6 < (r1.length:Int)then(if(row r1 x6).length=0 then(Zae.l0 x1 (wrapI (x6+1)) b0_0 r1 b2_0 r3)else(if 0 < (row r1 x6).length then(if 0≤x6 then(if x6 < (r1.length:Int)then(if 0≤x6 then(if x6 < (r1.length:Int)then(if(row r1 x6).length=0 then none else(if 0≤x1 then(if x1≤((row r1 x6).length:Int)then(if 0≤wrapI (x6 - x1)then(if wrapI (x6 - x1) < (r3.length:Int)then(if 0≤wrapI (x6 - x1)then(if wrapI (x6 - x1) < (r3.length:Int)then(if 0 < ((row r1 x6).drop (x1:Int).toNat).length then(Zae.l0 x1 (wrapI (x6+1)) b0_0 r1 b2_0 (r3.set (wrapI (x6 - x1):Int).toNat ((row r1 x6).drop (x1:Int).toNat)))else none)else none)else none)else none)else none)else none)else none))else none)else none)else none)else none)else none))else none)else none)else none)else none)else(some (b2_0,r3,b0_0,r1)):=(Zt _ _ _ _).trans (by kernel_rfl)
noncomputable def Zae.con:Con:=⟨Zae.fn.ins,Zae.fn.outs,Int×(List (List Int))×Int×(List (List Int)),fun x=>Zae.f x.1 x.2.1 x.2.2.1,fun r=>((r.1,r.2.1,()),(r.2.2.1,r.2.2.2,()))⟩
theorem Zae.valid:Valid Tryz.prog 224 Zae.con:=fnV Zae.fn Zae.E Zae.enc ⟨ttOk,(Ze ZaU.valid Zap)⟩ Tryz.func224
end Go.Proofs.YthmcpmnhdbeahaaGreat.P
namespace Go.Proofs.YthmcpmnhdbeahaaGreat.P
open Go Go.RowKit Go.Proofs.YthmcpmnhdbeahaaGreat.D
noncomputable def ZaW.E:Env:={ tt:=TT,con:=[(223,ZaA.con),(224,Zae.con)],frz:=[],rows:=[],live:=[],n:=19,pin:=0,nils:=[] }
noncomputable def ZaW.fn:D.Fn:={ body:=Tryz.f166.body.getD .skip,res:=Tryz.f166.results.toList,ins:=[.agg [.v (.sl 27 (.sl 2 (.int .i64)))],.agg [.v (.int .i64),.v (.sl 2 (.int .i64))],.one (.v (.int .i64))],outs:=[.ptr false 187 [.v (.int .i64),.own 27 false (.sl 1000002 (.int .i64))]] }
def ZaW.enc (y:lsd (flats ZaW.fn.outs)×lsd (ios ZaW.fn.ins)):Int×(List (List Int)):=(y.1.1,y.1.2.1)
noncomputable def ZaW.f (l0_0:List (List Int)) (a1_0:Int) (l1_1:List Int) (a2:Int):Option (Int×(List (List Int))):=denF ZaW.E ZaW.fn ZaW.enc (l0_0,a1_0,l1_1,a2,())
theorem ZaW.f_eq (l0_0:List (List Int)) (a1_0:Int) (l1_1:List Int) (a2:Int):ZaW.f l0_0 a1_0 l1_1 a2=(ZaA.f l0_0 a1_0 l1_1 a2).bind fun t13=>(Zae.f t13.1 t13.2.1 t13.2.2).bind fun t18=>some (t18.1,t18.2.1):=by kernel_rfl
noncomputable def ZaW.con:Con:=⟨ZaW.fn.ins,ZaW.fn.outs,Int×(List (List Int)),fun x=>ZaW.f x.1 x.2.1 x.2.2.1 x.2.2.2.1,fun r=>((r.1,r.2,()),(()))⟩
theorem ZaW.valid:Valid Tryz.prog 166 ZaW.con:=fnV ZaW.fn ZaW.E ZaW.enc ⟨ttOk,(Ze ZaA.valid (Ze Zae.valid Zap))⟩ Tryz.func166
end Go.Proofs.YthmcpmnhdbeahaaGreat.P
namespace Go.Proofs.YthmcpmnhdbeahaaGreat.P
open Go Go.RowKit Go.Proofs.YthmcpmnhdbeahaaGreat.D
noncomputable def ZR.E:Env:={ tt:=TT,con:=[],frz:=[],rows:=[],live:=[(3,[0,3,10,11,12])],n:=36,pin:=1,nils:=[] }
noncomputable def ZR.fn:D.Fn:={ body:=Tryz.f225.body.getD .skip,res:=Tryz.f225.results.toList,ins:=[.ptr false 187 [.v (.int .i64),.own 27 false (.sl 1000002 (.int .i64))]],outs:=[.one (.own 2 true (.int .i64))] }
def ZR.enc (y:lsd (flats ZR.fn.outs)×lsd (ios ZR.fn.ins)):(List Int)×Int×(List (List Int)):=(y.1.1,y.2.1,y.2.2.1)
noncomputable def ZR.f (a0_0:Int) (l0_1:List (List Int)):Option ((List Int)×Int×(List (List Int))):=denF ZR.E ZR.fn ZR.enc (a0_0,l0_1,())
noncomputable def ZR.l0 (x11:Int) (x12:Int) (b0_0:Int) (r1:List (List Int)) (r2:List Int):Option ((List Int)×Int×(List (List Int))):=denAt ZR.E ZR.fn ZR.enc [1,1,0,1,0] { fr:=[(0,.lf (.box 0 0)),(3,.lf (.own 2)),(10,.lf (.own 1)),(11,.lf (.int .i64 x11)),(12,.lf (.int .i64 x12))],ob:=[(0,.box 187 false [.int .i64 b0_0,.own 1]),(1,.row 27 false (.sl 1000002 (.int .i64)) r1),(2,.row 2 true (.int .i64) r2)],nx:=3 }
theorem ZR.f_eq (a0_0:Int) (l0_1:List (List Int)):ZR.f a0_0 l0_1=ZR.l0 (l0_1.length:Int) 0 a0_0 l0_1 ([]:List Int):=by kernel_rfl
theorem ZR.l0_eq (x11:Int) (x12:Int) (b0_0:Int) (r1:List (List Int)) (r2:List Int):ZR.l0 x11 x12 b0_0 r1 r2=if x12 < x11 then(if 0≤x12 then(if x12 < (r1.length:Int)then(if 0≤x12 then(if x12 < (r1.length:Int)then(if(row r1 x12).length=0 then(if r2.length+([1]:List Int).length≤17592186044416 then(ZR.l0 x11 (wrapI (x12+1)) b0_0 r1 (r2++([1]:List Int)))else none)else(if 0 < (row r1 x12).length then(if 0≤x12 then(if x12 < ((row r1 x12).length:Int)then(if(T r1 x12 x12)=0 then none else(if r2.length+([wrapI ((b0_0:Int).tdiv (T r1 x12 x12))]:List Int).length≤17592186044416 then(ZR.l0 x11 (wrapI (x12+1)) b0_0 r1 (r2++([wrapI ((b0_0:Int).tdiv (T r1 x12 x12))]:List Int)))else none))else none)else none)else none))else none)else none)else none)else none)else(some (r2,b0_0,r1)):=(Zt _ _ _ _).trans (by kernel_rfl)
noncomputable def ZR.con:Con:=⟨ZR.fn.ins,ZR.fn.outs,(List Int)×Int×(List (List Int)),fun x=>ZR.f x.1 x.2.1,fun r=>((r.1,()),(r.2.1,r.2.2,()))⟩
theorem ZR.valid:Valid Tryz.prog 225 ZR.con:=fnV ZR.fn ZR.E ZR.enc ⟨ttOk,Zap⟩ Tryz.func225
end Go.Proofs.YthmcpmnhdbeahaaGreat.P
namespace Go.Proofs.YthmcpmnhdbeahaaGreat.P
open Go Go.RowKit Go.Proofs.YthmcpmnhdbeahaaGreat.D
noncomputable def Zak.E:Env:={ tt:=TT,con:=[],frz:=[],rows:=[],live:=[(2,[0,1,5])],n:=16,pin:=0,nils:=[] }
noncomputable def Zak.fn:D.Fn:={ body:=Tryz.f226.body.getD .skip,res:=Tryz.f226.results.toList,ins:=[.one (.v (.int .i64)),.one (.v (.int .i64))],outs:=[.one (.v (.int .i64))] }
def Zak.enc (y:lsd (flats Zak.fn.outs)×lsd (ios Zak.fn.ins)):Int:=y.1.1
noncomputable def Zak.f (a0:Int) (a1:Int):Option Int:=denF Zak.E Zak.fn Zak.enc (a0,a1,())
noncomputable def Zak.l0 (x0:Int) (x1:Int) (x5:Int):Option Int:=denAt Zak.E Zak.fn Zak.enc [1,1,0,0] { fr:=[(0,.lf (.int .i64 x0)),(1,.lf (.int .i64 x1)),(5,.lf (.int .i64 x5))],ob:=[],nx:=0 }
theorem Zak.f_eq (a0:Int) (a1:Int):Zak.f a0 a1=Zak.l0 a0 a1 0:=by kernel_rfl
theorem Zak.l0_eq (x0:Int) (x1:Int) (x5:Int):Zak.l0 x0 x1 x5=if x0=0 then none else(if((x1:Int).tmod x0)=0 then(if x0=0 then none else(Zak.l0 x0 (wrapI ((x1:Int).tdiv x0)) (wrapI (x5+1))))else(some x5)):=(Zt _ _ _ _).trans (by kernel_rfl)
noncomputable def Zak.con:Con:=⟨Zak.fn.ins,Zak.fn.outs,Int,fun x=>Zak.f x.1 x.2.1,fun r=>((r,()),(()))⟩
theorem Zak.valid:Valid Tryz.prog 226 Zak.con:=fnV Zak.fn Zak.E Zak.enc ⟨ttOk,Zap⟩ Tryz.func226
end Go.Proofs.YthmcpmnhdbeahaaGreat.P
namespace Go.Proofs.YthmcpmnhdbeahaaGreat.P
open Go Go.RowKit Go.Proofs.YthmcpmnhdbeahaaGreat.D
noncomputable def Zh.E:Env:={ tt:=TT,con:=[(225,ZR.con),(226,Zak.con)],frz:=[],rows:=[],live:=[(4,[5,6,7,16,17,18]),(8,[5,6,7,9,10,16,17,18,23,24]),(13,[5,6,7,9,16,17,18,43,44])],n:=52,pin:=3,nils:=[] }
noncomputable def Zh.fn:D.Fn:={ body:=Tryz.f167.body.getD .skip,res:=Tryz.f167.results.toList,ins:=[.ptr false 187 [.v (.int .i64),.own 27 false (.sl 1000002 (.int .i64))],.ptr false 187 [.v (.int .i64),.own 27 false (.sl 1000002 (.int .i64))]],outs:=[.one (.v (.int .i64))] }
def Zh.enc (y:lsd (flats Zh.fn.outs)×lsd (ios Zh.fn.ins)):Int×Int×(List (List Int))×Int×(List (List Int)):=(y.1.1,y.2.1,y.2.2.1,y.2.2.2.1,y.2.2.2.2.1)
noncomputable def Zh.f (a0_0:Int) (l0_1:List (List Int)) (a1_0:Int) (l1_1:List (List Int)):Option (Int×Int×(List (List Int))×Int×(List (List Int))):=denF Zh.E Zh.fn Zh.enc (a0_0,l0_1,a1_0,l1_1,())
noncomputable def Zh.l0 (x7:Int) (x17:Int) (x18:Int) (b0_0:Int) (b2_0:Int) (r3:List (List Int)) (r4:List (List Int)) (r5:List Int) (r6:List Int) (r7:List Int):Option (Int×Int×(List (List Int))×Int×(List (List Int))):=denAt Zh.E Zh.fn Zh.enc [1,1,1,0,1,0] { fr:=[(5,.lf (.own 5)),(6,.lf (.own 6)),(7,.lf (.int .i64 x7)),(16,.lf (.own 7)),(17,.lf (.int .i64 x17)),(18,.lf (.int .i64 x18))],ob:=[(0,.box 187 false [.int .i64 b0_0,.own 3]),(2,.box 187 false [.int .i64 b2_0,.own 4]),(3,.row 27 false (.sl 1000002 (.int .i64)) r3),(4,.row 27 false (.sl 1000002 (.int .i64)) r4),(5,.row 2 true (.int .i64) r5),(6,.row 2 true (.int .i64) r6),(7,.row 2 true (.int .i64) r7)],nx:=8 }
noncomputable def Zh.l1 (x7:Int) (x9:Int) (x10:Int) (x17:Int) (x18:Int) (x23:Int) (x24:Int) (b0_0:Int) (b2_0:Int) (r3:List (List Int)) (r4:List (List Int)) (r5:List Int) (r6:List Int) (r7:List Int):Option (Int×Int×(List (List Int))×Int×(List (List Int))):=denAt Zh.E Zh.fn Zh.enc [1,1,1,0,1,0,0,1,1,0,0,1,1,0,1,0] { fr:=[(5,.lf (.own 5)),(6,.lf (.own 6)),(7,.lf (.int .i64 x7)),(9,.lf (.int .i64 x9)),(10,.lf (.int .i64 x10)),(16,.lf (.own 7)),(17,.lf (.int .i64 x17)),(18,.lf (.int .i64 x18)),(23,.lf (.int .i64 x23)),(24,.lf (.int .i64 x24))],ob:=[(0,.box 187 false [.int .i64 b0_0,.own 3]),(2,.box 187 false [.int .i64 b2_0,.own 4]),(3,.row 27 false (.sl 1000002 (.int .i64)) r3),(4,.row 27 false (.sl 1000002 (.int .i64)) r4),(5,.row 2 true (.int .i64) r5),(6,.row 2 true (.int .i64) r6),(7,.row 2 true (.int .i64) r7)],nx:=8 }
noncomputable def Zh.l2 (x7:Int) (x9:Int) (x17:Int) (x18:Int) (x43:Int) (x44:Int) (b0_0:Int) (b2_0:Int) (r3:List (List Int)) (r4:List (List Int)) (r5:List Int) (r6:List Int) (r7:List Int):Option (Int×Int×(List (List Int))×Int×(List (List Int))):=denAt Zh.E Zh.fn Zh.enc [1,1,1,0,1,0,0,1,1,0,0,1,1,1,1,0] { fr:=[(5,.lf (.own 5)),(6,.lf (.own 6)),(7,.lf (.int .i64 x7)),(9,.lf (.int .i64 x9)),(16,.lf (.own 7)),(17,.lf (.int .i64 x17)),(18,.lf (.int .i64 x18)),(43,.lf (.int .i64 x43)),(44,.lf (.int .i64 x44))],ob:=[(0,.box 187 false [.int .i64 b0_0,.own 3]),(2,.box 187 false [.int .i64 b2_0,.own 4]),(3,.row 27 false (.sl 1000002 (.int .i64)) r3),(4,.row 27 false (.sl 1000002 (.int .i64)) r4),(5,.row 2 true (.int .i64) r5),(6,.row 2 true (.int .i64) r6),(7,.row 2 true (.int .i64) r7)],nx:=8 }
theorem Zh.f_eq (a0_0:Int) (l0_1:List (List Int)) (a1_0:Int) (l1_1:List (List Int)):Zh.f a0_0 l0_1 a1_0 l1_1=(ZR.f a0_0 l0_1).bind fun t13=>(ZR.f a1_0 l1_1).bind fun t15=>Zh.l0 1 (([2,3,5,7,11]:List Int).length:Int) 0 t13.2.1 t15.2.1 t13.2.2 t15.2.2 t13.1 t15.1 ([2,3,5,7,11]:List Int):=by kernel_rfl
theorem Zh.l0_eq (x7:Int) (x17:Int) (x18:Int) (b0_0:Int) (b2_0:Int) (r3:List (List Int)) (r4:List (List Int)) (r5:List Int) (r6:List Int) (r7:List Int):Zh.l0 x7 x17 x18 b0_0 b2_0 r3 r4 r5 r6 r7=if x18 < x17 then(if 0≤x18 then(if x18 < (r7.length:Int)then(if 0≤x18 then(if x18 < (r7.length:Int)then(Zh.l1 x7 (rd r7 x18) 0 x17 x18 (r5.length:Int) 0 b0_0 b2_0 r3 r4 r5 r6 r7)else none)else none)else none)else none)else(some (x7,b0_0,r3,b2_0,r4)):=(Zt _ _ _ _).trans (by kernel_rfl)
theorem Zh.l1_eq (x7:Int) (x9:Int) (x10:Int) (x17:Int) (x18:Int) (x23:Int) (x24:Int) (b0_0:Int) (b2_0:Int) (r3:List (List Int)) (r4:List (List Int)) (r5:List Int) (r6:List Int) (r7:List Int):Zh.l1 x7 x9 x10 x17 x18 x23 x24 b0_0 b2_0 r3 r4 r5 r6 r7=if x24 < x23 then(if 0≤x24 then(if x24 < (r5.length:Int)then(if 0≤x24 then(if x24 < (r5.length:Int)then((Zak.f x9 (rd r5 x24)).bind fun t33=>if 0≤x24 then(if x24 < (r6.length:Int)then(if 0≤x24 then(if x24 < (r6.length:Int)then((Zak.f x9 (rd r6 x24)).bind fun t39=>Zh.l1 x7 x9 (wrapI (x10+(wrapI (t33 - t39)))) x17 x18 x23 (wrapI (x24+1)) b0_0 b2_0 r3 r4 r5 r6 r7)else none)else none)else none)else none)else none)else none)else none)else none)else(Zh.l2 x7 x9 x17 x18 x10 0 b0_0 b2_0 r3 r4 r5 r6 r7):=(Zt _ _ _ _).trans (by kernel_rfl)
theorem Zh.l2_eq (x7:Int) (x9:Int) (x17:Int) (x18:Int) (x43:Int) (x44:Int) (b0_0:Int) (b2_0:Int) (r3:List (List Int)) (r4:List (List Int)) (r5:List Int) (r6:List Int) (r7:List Int):Zh.l2 x7 x9 x17 x18 x43 x44 b0_0 b2_0 r3 r4 r5 r6 r7=if x44 < x43 then(Zh.l2 (wrapI (x7*x9)) x9 x17 x18 x43 (wrapI (x44+1)) b0_0 b2_0 r3 r4 r5 r6 r7)else(Zh.l0 x7 x17 (wrapI (x18+1)) b0_0 b2_0 r3 r4 r5 r6 r7):=(Zt _ _ _ _).trans (by kernel_rfl)
noncomputable def Zh.con:Con:=⟨Zh.fn.ins,Zh.fn.outs,Int×Int×(List (List Int))×Int×(List (List Int)),fun x=>Zh.f x.1 x.2.1 x.2.2.1 x.2.2.2.1,fun r=>((r.1,()),(r.2.1,r.2.2.1,r.2.2.2.1,r.2.2.2.2,()))⟩
theorem Zh.valid:Valid Tryz.prog 167 Zh.con:=fnV Zh.fn Zh.E Zh.enc ⟨ttOk,(Ze ZR.valid (Ze Zak.valid Zap))⟩ Tryz.func167
end Go.Proofs.YthmcpmnhdbeahaaGreat.P
namespace Go.Proofs.YthmcpmnhdbeahaaGreat.P
open Go Go.RowKit Go.Proofs.YthmcpmnhdbeahaaGreat.D
noncomputable def Z9.E:Env:={ tt:=TT,con:=[(228,ZaZ.con),(227,ZaU.con),(211,Zbj.con),(192,ZaO.con),(229,Zp.con)],frz:=[39],rows:=[],live:=[(5,[2,3,4,7,22,23])],n:=43,pin:=0,nils:=[] }
noncomputable def Z9.fn:D.Fn:={ body:=Tryz.f168.body.getD .skip,res:=Tryz.f168.results.toList,ins:=[.agg [.v (.sl 27 (.sl 2 (.int .i64)))],.agg [.v (.int .i64),.v (.sl 2 (.int .i64))],.one (.v (.int .i64))],outs:=[.ptr false 187 [.v (.int .i64),.own 27 false (.sl 1000002 (.int .i64))]] }
def Z9.enc (y:lsd (flats Z9.fn.outs)×lsd (ios Z9.fn.ins)):Int×(List (List Int)):=(y.1.1,y.1.2.1)
noncomputable def Z9.f (l0_0:List (List Int)) (a1_0:Int) (l1_1:List Int) (a2:Int):Option (Int×(List (List Int))):=denF Z9.E Z9.fn Z9.enc (l0_0,a1_0,l1_1,a2,())
noncomputable def Z9.l0 (x2:Int) (x22:Int) (x23:Int) (b0_0:List (List Int)) (b1_0:Int) (b1_1:List Int) (b2_0:Int) (r3:List (List Int)):Option (Int×(List (List Int))):=denAt Z9.E Z9.fn Z9.enc [1,1,1,0,1,0] { fr:=[(2,.lf (.int .i64 x2)),(3,.lf (.box 0 0)),(4,.lf (.box 1 0)),(7,.lf (.box 2 0)),(22,.lf (.int .i64 x22)),(23,.lf (.int .i64 x23))],ob:=[(0,.box 26 false [.sl (.sl 2 (.int .i64)) b0_0]),(1,.box 29 false [.int .i64 b1_0,.sl (.int .i64) b1_1]),(2,.box 187 false [.int .i64 b2_0,.own 3]),(3,.row 27 false (.sl 1000002 (.int .i64)) r3)],nx:=4 }
theorem Z9.f_eq (l0_0:List (List Int)) (a1_0:Int) (l1_1:List Int) (a2:Int):Z9.f l0_0 a1_0 l1_1 a2=(ZaZ.f l0_0 a2).bind fun t14=>(ZaU.f a1_0 t14).bind fun t15=>if a2=0 then(some (t15.1,t15.2))else((ZaZ.f l0_0 (wrapI (a2 - 1))).bind fun t22=>Z9.l0 a2 t22 0 l0_0 a1_0 l1_1 t15.1 t15.2):=by kernel_rfl
theorem Z9.l0_eq (x2:Int) (x22:Int) (x23:Int) (b0_0:List (List Int)) (b1_0:Int) (b1_1:List Int) (b2_0:Int) (r3:List (List Int)):Z9.l0 x2 x22 x23 b0_0 b1_0 b1_1 b2_0 r3=if x23 < x22 then((Zbj.f b0_0 (wrapI (x2 - 1))).bind fun t29=>if 0≤x23 then(if x23 < (t29.2.length:Int)then(if 0≤x23 then(if x23 < (t29.2.length:Int)then((ZaO.f b0_0 b1_0 b1_1 t29.1 (t29.2.set (x23:Int).toNat 1)).bind fun t38=>(Zp.f b2_0 r3 t38.2).bind fun t40=>Z9.l0 x2 x22 (wrapI (x23+1)) b0_0 b1_0 b1_1 t40.1 t40.2)else none)else none)else none)else none)else(some (b2_0,r3)):=(Zt _ _ _ _).trans (by kernel_rfl)
noncomputable def Z9.con:Con:=⟨Z9.fn.ins,Z9.fn.outs,Int×(List (List Int)),fun x=>Z9.f x.1 x.2.1 x.2.2.1 x.2.2.2.1,fun r=>((r.1,r.2,()),(()))⟩
theorem Z9.valid:Valid Tryz.prog 168 Z9.con:=fnV Z9.fn Z9.E Z9.enc ⟨ttOk,(Ze ZaZ.valid (Ze ZaU.valid (Ze Zbj.valid (Ze ZaO.valid (Ze Zp.valid Zap)))))⟩ Tryz.func168
end Go.Proofs.YthmcpmnhdbeahaaGreat.P
namespace Go.Proofs.YthmcpmnhdbeahaaGreat.P
open Go Go.RowKit Go.Proofs.YthmcpmnhdbeahaaGreat.D
noncomputable def ZF.E:Env:={ tt:=TT,con:=[(165,Za4.con),(166,ZaW.con),(168,Z9.con),(167,Zh.con)],frz:=[],rows:=[],live:=[],n:=25,pin:=0,nils:=[] }
noncomputable def ZF.fn:D.Fn:={ body:=Tryz.f80.body.getD .skip,res:=Tryz.f80.results.toList,ins:=[.agg [.v (.sl 27 (.sl 2 (.int .i64)))],.agg [.v (.int .i64),.v (.sl 2 (.int .i64))],.one (.v (.int .i64))],outs:=[.one (.v (.int .i64)),.one (.v (.int .i64))] }
def ZF.enc (y:lsd (flats ZF.fn.outs)×lsd (ios ZF.fn.ins)):Int×Int:=(y.1.1,y.1.2.1)
noncomputable def ZF.f (l0_0:List (List Int)) (a1_0:Int) (l1_1:List Int) (a2:Int):Option (Int×Int):=denF ZF.E ZF.fn ZF.enc (l0_0,a1_0,l1_1,a2,())
theorem ZF.f_eq (l0_0:List (List Int)) (a1_0:Int) (l1_1:List Int) (a2:Int):ZF.f l0_0 a1_0 l1_1 a2=(Za4.f l0_0 a1_0 l1_1 a2).bind fun t12=>if t12=0 then((ZaW.f l0_0 a1_0 l1_1 a2).bind fun t19=>(Z9.f l0_0 a1_0 l1_1 a2).bind fun t23=>(Zh.f t19.1 t19.2 t23.1 t23.2).bind fun t24=>some (t24.1,0))else(some (0,t12)):=by kernel_rfl
noncomputable def ZF.con:Con:=⟨ZF.fn.ins,ZF.fn.outs,Int×Int,fun x=>ZF.f x.1 x.2.1 x.2.2.1 x.2.2.2.1,fun r=>((r.1,r.2,()),(()))⟩
theorem ZF.valid:Valid Tryz.prog 80 ZF.con:=fnV ZF.fn ZF.E ZF.enc ⟨ttOk,(Ze Za4.valid (Ze ZaW.valid (Ze Z9.valid (Ze Zh.valid Zap))))⟩ Tryz.func80
end Go.Proofs.YthmcpmnhdbeahaaGreat.P
namespace Go.Proofs.YthmcpmnhdbeahaaGreat.P
open Go Go.RowKit Go.Proofs.YthmcpmnhdbeahaaGreat.D
noncomputable def ZaJ.E:Env:={ tt:=TT,con:=[],frz:=[],rows:=[],live:=[(2,[0,1,5])],n:=18,pin:=0,nils:=[] }
noncomputable def ZaJ.fn:D.Fn:={ body:=Tryz.f81.body.getD .skip,res:=Tryz.f81.results.toList,ins:=[.one (.v (.sl 2 (.int .i64))),.one (.v (.int .i64))],outs:=[.one (.v .bool)] }
def ZaJ.enc (y:lsd (flats ZaJ.fn.outs)×lsd (ios ZaJ.fn.ins)):Bool:=y.1.1
noncomputable def ZaJ.f (l0:List Int) (a1:Int):Option Bool:=denF ZaJ.E ZaJ.fn ZaJ.enc (l0,a1,())
noncomputable def ZaJ.l0 (x0:List Int) (x1:Int) (x5:Int):Option Bool:=denAt ZaJ.E ZaJ.fn ZaJ.enc [1,0,1,0] { fr:=[(0,.lf (.sl (.int .i64) x0)),(1,.lf (.int .i64 x1)),(5,.lf (.int .i64 x5))],ob:=[],nx:=0 }
theorem ZaJ.f_eq (l0:List Int) (a1:Int):ZaJ.f l0 a1=ZaJ.l0 l0 a1 0:=by kernel_rfl
theorem ZaJ.l0_eq (x0:List Int) (x1:Int) (x5:Int):ZaJ.l0 x0 x1 x5=if x5 < (x0.length:Int)then(if 0≤x5 then(if x5 < (x0.length:Int)then(if(rd x0 x5)=x1 then(some true)else(ZaJ.l0 x0 x1 (wrapI (x5+1))))else none)else none)else(some false):=(Zt _ _ _ _).trans (by kernel_rfl)
noncomputable def ZaJ.con:Con:=⟨ZaJ.fn.ins,ZaJ.fn.outs,Bool,fun x=>ZaJ.f x.1 x.2.1,fun r=>((r,()),(()))⟩
theorem ZaJ.valid:Valid Tryz.prog 81 ZaJ.con:=fnV ZaJ.fn ZaJ.E ZaJ.enc ⟨ttOk,Zap⟩ Tryz.func81
end Go.Proofs.YthmcpmnhdbeahaaGreat.P
