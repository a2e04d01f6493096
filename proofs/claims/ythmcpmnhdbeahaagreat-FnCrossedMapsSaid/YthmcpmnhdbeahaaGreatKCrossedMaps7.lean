/- What the proof of the law CrossedMaps stands on, part 7: words, each Go function's Lean function, and that the Go code comes to its answers; no condition. (Packed by wip/myprint/pack.py out of what the kit's printer wrote, its words among it, partly by our patches of it, and out of texts of this session.) -/
import Derived.Test.YthmcpmnhdbeahaaGreatKCrossedMaps3
import Derived.Test.YthmcpmnhdbeahaaGreatKCrossedMaps5
import Derived.Test.YthmcpmnhdbeahaaGreatKCrossedMaps6
set_option linter.unusedVariables false
set_option linter.unusedSimpArgs false
set_option maxRecDepth 100000
namespace Go.Proofs.YthmcpmnhdbeahaaGreat.P
open Go Go.RowKit Go.Proofs.YthmcpmnhdbeahaaGreat.D
noncomputable def Zby.E:Env:={ tt:=TT,con:=[],frz:=[],rows:=[],live:=[],n:=9,pin:=0,nils:=[] }
noncomputable def Zby.fn:D.Fn:={ body:=Tryz.f248.body.getD .skip,res:=Tryz.f248.results.toList,ins:=[.one (.v (.int .i64))],outs:=[.one (.v .bool)] }
def Zby.enc (y:lsd (flats Zby.fn.outs)×lsd (ios Zby.fn.ins)):Bool:=y.1.1
noncomputable def Zby.f (a0:Int):Option Bool:=denF Zby.E Zby.fn Zby.enc (a0,())
theorem Zby.f_eq (a0:Int):Zby.f a0=if a0≥0 then(some (decide (a0≤3)))else(some false):=by kernel_rfl
noncomputable def Zby.con:Con:=⟨Zby.fn.ins,Zby.fn.outs,Bool,fun x=>Zby.f x.1,fun r=>((r,()),(()))⟩
theorem Zby.valid:Valid Tryz.prog 248 Zby.con:=fnV Zby.fn Zby.E Zby.enc ⟨ttOk,Zaq⟩ Tryz.func248
end Go.Proofs.YthmcpmnhdbeahaaGreat.P
namespace Go.Proofs.YthmcpmnhdbeahaaGreat.P
open Go Go.RowKit Go.Proofs.YthmcpmnhdbeahaaGreat.D
noncomputable def Zbo.E:Env:={ tt:=TT,con:=[(248,Zby.con),(228,ZbG.con),(93,Za3.con)],frz:=[],rows:=[],live:=[],n:=27,pin:=0,nils:=[] }
noncomputable def Zbo.fn:D.Fn:={ body:=Tryz.f191.body.getD .skip,res:=Tryz.f191.results.toList,ins:=[.agg [.v (.sl 27 (.sl 2 (.int .i64)))],.agg [.v (.int .i64),.v (.sl 2 (.int .i64))],.agg [.v (.int .i64),.v (.sl 2 (.int .i64))]],outs:=[.one (.v .bool)] }
def Zbo.enc (y:lsd (flats Zbo.fn.outs)×lsd (ios Zbo.fn.ins)):Bool:=y.1.1
noncomputable def Zbo.f (l0_0:List (List Int)) (a1_0:Int) (l1_1:List Int) (a2_0:Int) (l2_1:List Int):Option Bool:=denF Zbo.E Zbo.fn Zbo.enc (l0_0,a1_0,l1_1,a2_0,l2_1,())
theorem Zbo.f_eq (l0_0:List (List Int)) (a1_0:Int) (l1_1:List Int) (a2_0:Int) (l2_1:List Int):Zbo.f l0_0 a1_0 l1_1 a2_0 l2_1=(Zby.f a2_0).bind fun t9=>if t9=true then((ZbG.f l0_0 a2_0).bind fun t17=>if(l2_1.length:Int)=t17 then((Za3.f a1_0 l2_1).bind fun t25=>some (decide (t25=true)))else(some false))else(some false):=by kernel_rfl
noncomputable def Zbo.con:Con:=⟨Zbo.fn.ins,Zbo.fn.outs,Bool,fun x=>Zbo.f x.1 x.2.1 x.2.2.1 x.2.2.2.1 x.2.2.2.2.1,fun r=>((r,()),(()))⟩
theorem Zbo.valid:Valid Tryz.prog 191 Zbo.con:=fnV Zbo.fn Zbo.E Zbo.enc ⟨ttOk,(Zs Zby.valid (Zs ZbG.valid (Zs Za3.valid Zaq)))⟩ Tryz.func191
end Go.Proofs.YthmcpmnhdbeahaaGreat.P
namespace Go.Proofs.YthmcpmnhdbeahaaGreat.P
open Go Go.RowKit Go.Proofs.YthmcpmnhdbeahaaGreat.D
noncomputable def Zap.E:Env:={ tt:=TT,con:=[(181,Zal.con),(191,Zbo.con)],frz:=[],rows:=[11],live:=[(4,[3,4,14,15,16])],n:=26,pin:=0,nils:=[] }
noncomputable def Zap.fn:D.Fn:={ body:=Tryz.f124.body.getD .skip,res:=Tryz.f124.results.toList,ins:=[.agg [.v (.sl 27 (.sl 2 (.int .i64)))],.agg [.v (.int .i64),.v (.sl 2 (.int .i64))],.one (.v (.sl 56 (.pr (.int .i64) (.sl 2 (.int .i64)))))],outs:=[.one (.v (.int .i64))] }
def Zap.enc (y:lsd (flats Zap.fn.outs)×lsd (ios Zap.fn.ins)):Int:=y.1.1
noncomputable def Zap.f (l0_0:List (List Int)) (a1_0:Int) (l1_1:List Int) (l2:List (Int×(List Int))):Option Int:=denF Zap.E Zap.fn Zap.enc (l0_0,a1_0,l1_1,l2,())
noncomputable def Zap.l0 (x14:List (Int×(List Int))) (x15:Int) (x16:Int) (b0_0:List (List Int)) (b1_0:Int) (b1_1:List Int):Option Int:=denAt Zap.E Zap.fn Zap.enc [1,1,0,1,0] { fr:=[(3,.lf (.box 0 0)),(4,.lf (.box 1 0)),(14,.lf (.sl (.pr (.int .i64) (.sl 2 (.int .i64))) x14)),(15,.lf (.int .i64 x15)),(16,.lf (.int .i64 x16))],ob:=[(0,.box 26 false [.sl (.sl 2 (.int .i64)) b0_0]),(1,.box 29 false [.int .i64 b1_0,.sl (.int .i64) b1_1])],nx:=2 }
theorem Zap.f_eq (l0_0:List (List Int)) (a1_0:Int) (l1_1:List Int) (l2:List (Int×(List Int))):Zap.f l0_0 a1_0 l1_1 l2=(Zal.f l0_0 ([(a1_0,l1_1)]:List (Int×(List Int)))).bind fun t12=>if t12=true then(Zap.l0 l2 (l2.length:Int) 0 l0_0 a1_0 l1_1)else(some 1):=by kernel_rfl
theorem Zap.l0_eq (x14:List (Int×(List Int))) (x15:Int) (x16:Int) (b0_0:List (List Int)) (b1_0:Int) (b1_1:List Int):Zap.l0 x14 x15 x16 b0_0 b1_0 b1_1=if x16 < x15 then(if 0≤x16 then(if x16 < (x14.length:Int)then((Zbo.f b0_0 b1_0 b1_1 ((Ty.rd (.pr (.int .i64) (.sl 2 (.int .i64))) x14 x16).1) ((Ty.rd (.pr (.int .i64) (.sl 2 (.int .i64))) x14 x16).2)).bind fun t23=>if t23=true then(Zap.l0 x14 x15 (wrapI (x16+1)) b0_0 b1_0 b1_1)else(some 1))else none)else none)else(some 0):=(Zv _ _ _ _).trans (by kernel_rfl)
noncomputable def Zap.con:Con:=⟨Zap.fn.ins,Zap.fn.outs,Int,fun x=>Zap.f x.1 x.2.1 x.2.2.1 x.2.2.2.1,fun r=>((r,()),(()))⟩
theorem Zap.valid:Valid Tryz.prog 124 Zap.con:=fnV Zap.fn Zap.E Zap.enc ⟨ttOk,(Zs Zal.valid (Zs Zbo.valid Zaq))⟩ Tryz.func124
end Go.Proofs.YthmcpmnhdbeahaaGreat.P
namespace Go.Proofs.YthmcpmnhdbeahaaGreat.P
open Go Go.RowKit Go.Proofs.YthmcpmnhdbeahaaGreat.D
noncomputable def ZaK.E:Env:={ tt:=TT,con:=[(192,Zbh.con)],frz:=[],rows:=[],live:=[(2,[13,14,15])],n:=22,pin:=0,nils:=[] }
noncomputable def ZaK.fn:D.Fn:={ body:=Tryz.f125.body.getD .skip,res:=Tryz.f125.results.toList,ins:=[.agg [.v (.sl 27 (.sl 2 (.int .i64)))],.agg [.v (.int .i64),.v (.sl 2 (.int .i64))],.agg [.v (.int .i64),.v (.sl 2 (.int .i64))]],outs:=[.one (.v .bool)] }
def ZaK.enc (y:lsd (flats ZaK.fn.outs)×lsd (ios ZaK.fn.ins)):Bool:=y.1.1
noncomputable def ZaK.f (l0_0:List (List Int)) (a1_0:Int) (l1_1:List Int) (a2_0:Int) (l2_1:List Int):Option Bool:=denF ZaK.E ZaK.fn ZaK.enc (l0_0,a1_0,l1_1,a2_0,l2_1,())
noncomputable def ZaK.l0 (x14:Int) (x15:Int) (r0:List Int):Option Bool:=denAt ZaK.E ZaK.fn ZaK.enc [1,0,1,0] { fr:=[(13,.lf (.own 0)),(14,.lf (.int .i64 x14)),(15,.lf (.int .i64 x15))],ob:=[(0,.row 2 true (.int .i64) r0)],nx:=1 }
theorem ZaK.f_eq (l0_0:List (List Int)) (a1_0:Int) (l1_1:List Int) (a2_0:Int) (l2_1:List Int):ZaK.f l0_0 a1_0 l1_1 a2_0 l2_1=(Zbh.f l0_0 a1_0 l1_1 a2_0 l2_1).bind fun t12=>ZaK.l0 (t12.2.length:Int) 0 t12.2:=by kernel_rfl
theorem ZaK.l0_eq (x14:Int) (x15:Int) (r0:List Int):ZaK.l0 x14 x15 r0=if x15 < x14 then(if 0≤x15 then(if x15 < (r0.length:Int)then(if 0≤x15 then(if x15 < (r0.length:Int)then(if(rd r0 x15)=0 then(ZaK.l0 x14 (wrapI (x15+1)) r0)else(some false))else none)else none)else none)else none)else(some true):=(Zv _ _ _ _).trans (by kernel_rfl)
noncomputable def ZaK.con:Con:=⟨ZaK.fn.ins,ZaK.fn.outs,Bool,fun x=>ZaK.f x.1 x.2.1 x.2.2.1 x.2.2.2.1 x.2.2.2.2.1,fun r=>((r,()),(()))⟩
theorem ZaK.valid:Valid Tryz.prog 125 ZaK.con:=fnV ZaK.fn ZaK.E ZaK.enc ⟨ttOk,(Zs Zbh.valid Zaq)⟩ Tryz.func125
end Go.Proofs.YthmcpmnhdbeahaaGreat.P
namespace Go.Proofs.YthmcpmnhdbeahaaGreat.P
open Go Go.RowKit Go.Proofs.YthmcpmnhdbeahaaGreat.D
noncomputable def Zbk.E:Env:={ tt:=TT,con:=[(124,Zap.con),(125,ZaK.con)],frz:=[],rows:=[12],live:=[],n:=21,pin:=0,nils:=[] }
noncomputable def Zbk.fn:D.Fn:={ body:=Tryz.f39.body.getD .skip,res:=Tryz.f39.results.toList,ins:=[.agg [.v (.sl 27 (.sl 2 (.int .i64)))],.agg [.v (.int .i64),.v (.sl 2 (.int .i64))],.agg [.v (.int .i64),.v (.sl 2 (.int .i64))]],outs:=[.one (.v .bool),.one (.v (.int .i64))] }
def Zbk.enc (y:lsd (flats Zbk.fn.outs)×lsd (ios Zbk.fn.ins)):Bool×Int:=(y.1.1,y.1.2.1)
noncomputable def Zbk.f (l0_0:List (List Int)) (a1_0:Int) (l1_1:List Int) (a2_0:Int) (l2_1:List Int):Option (Bool×Int):=denF Zbk.E Zbk.fn Zbk.enc (l0_0,a1_0,l1_1,a2_0,l2_1,())
theorem Zbk.f_eq (l0_0:List (List Int)) (a1_0:Int) (l1_1:List Int) (a2_0:Int) (l2_1:List Int):Zbk.f l0_0 a1_0 l1_1 a2_0 l2_1=(Zap.f l0_0 a1_0 l1_1 ([(a2_0,l2_1)]:List (Int×(List Int)))).bind fun t13=>if t13=0 then((ZaK.f l0_0 a1_0 l1_1 a2_0 l2_1).bind fun t20=>some (decide (t20=true),0))else(some (false,t13)):=by kernel_rfl
noncomputable def Zbk.con:Con:=⟨Zbk.fn.ins,Zbk.fn.outs,Bool×Int,fun x=>Zbk.f x.1 x.2.1 x.2.2.1 x.2.2.2.1 x.2.2.2.2.1,fun r=>((r.1,r.2,()),(()))⟩
theorem Zbk.valid:Valid Tryz.prog 39 Zbk.con:=fnV Zbk.fn Zbk.E Zbk.enc ⟨ttOk,(Zs Zap.valid (Zs ZaK.valid Zaq))⟩ Tryz.func39
end Go.Proofs.YthmcpmnhdbeahaaGreat.P
namespace Go.Proofs.YthmcpmnhdbeahaaGreat.P
open Go Go.RowKit Go.Proofs.YthmcpmnhdbeahaaGreat.D
noncomputable def Zae.E:Env:={ tt:=TT,con:=[(88,Zbd.con)],frz:=[],rows:=[],live:=[],n:=17,pin:=0,nils:=[] }
noncomputable def Zae.fn:D.Fn:={ body:=Tryz.f40.body.getD .skip,res:=Tryz.f40.results.toList,ins:=[.one (.v (.sl 5 (.int .u8)))],outs:=[.agg [.v (.sl 27 (.sl 2 (.int .i64)))],.agg [.v (.int .i64),.v (.sl 2 (.int .i64))],.one (.own 2 true (.int .i64))] }
def Zae.enc (y:lsd (flats Zae.fn.outs)×lsd (ios Zae.fn.ins)):(List (List Int))×Int×(List Int)×(List Int):=(y.1.1,y.1.2.1,y.1.2.2.1,y.1.2.2.2.1)
noncomputable def Zae.f (l0:List Int):Option ((List (List Int))×Int×(List Int)×(List Int)):=denF Zae.E Zae.fn Zae.enc (l0,())
theorem Zae.f_eq (l0:List Int):Zae.f l0=(Zbd.f l0).bind fun t10=>some (t10.1,t10.2.1,t10.2.2.1,t10.2.2.2):=by kernel_rfl
noncomputable def Zae.con:Con:=⟨Zae.fn.ins,Zae.fn.outs,(List (List Int))×Int×(List Int)×(List Int),fun x=>Zae.f x.1,fun r=>((r.1,r.2.1,r.2.2.1,r.2.2.2,()),(()))⟩
theorem Zae.valid:Valid Tryz.prog 40 Zae.con:=fnV Zae.fn Zae.E Zae.enc ⟨ttOk,(Zs Zbd.valid Zaq)⟩ Tryz.func40
end Go.Proofs.YthmcpmnhdbeahaaGreat.P
namespace Go.Proofs.YthmcpmnhdbeahaaGreat.P
open Go Go.RowKit Go.Proofs.YthmcpmnhdbeahaaGreat.D
noncomputable def Zaw.E:Env:={ tt:=TT,con:=[(103,Zbx.con)],frz:=[],rows:=[],live:=[(2,[2,3,4,7])],n:=29,pin:=0,nils:=[] }
noncomputable def Zaw.fn:D.Fn:={ body:=Tryz.f193.body.getD .skip,res:=Tryz.f193.results.toList,ins:=[.agg [.v (.sl 27 (.sl 2 (.int .i64)))],.agg [.v (.int .i64),.v (.sl 2 (.int .i64))],.one (.v (.sl 2 (.int .i64)))],outs:=[.one (.v .bool)] }
def Zaw.enc (y:lsd (flats Zaw.fn.outs)×lsd (ios Zaw.fn.ins)):Bool:=y.1.1
noncomputable def Zaw.f (l0_0:List (List Int)) (a1_0:Int) (l1_1:List Int) (l2:List Int):Option Bool:=denF Zaw.E Zaw.fn Zaw.enc (l0_0,a1_0,l1_1,l2,())
noncomputable def Zaw.l0 (x2:List Int) (x7:Int) (b0_0:List (List Int)) (b1_0:Int) (b1_1:List Int):Option Bool:=denAt Zaw.E Zaw.fn Zaw.enc [1,0,1,0] { fr:=[(2,.lf (.sl (.int .i64) x2)),(3,.lf (.box 0 0)),(4,.lf (.box 1 0)),(7,.lf (.int .i64 x7))],ob:=[(0,.box 26 false [.sl (.sl 2 (.int .i64)) b0_0]),(1,.box 29 false [.int .i64 b1_0,.sl (.int .i64) b1_1])],nx:=2 }
theorem Zaw.f_eq (l0_0:List (List Int)) (a1_0:Int) (l1_1:List Int) (l2:List Int):Zaw.f l0_0 a1_0 l1_1 l2=Zaw.l0 l2 0 l0_0 a1_0 l1_1:=by kernel_rfl
theorem Zaw.l0_eq (x2:List Int) (x7:Int) (b0_0:List (List Int)) (b1_0:Int) (b1_1:List Int):Zaw.l0 x2 x7 b0_0 b1_0 b1_1=if x7 < (x2.length:Int)then(if 0≤x7 then(if x7 < (x2.length:Int)then((Zbx.f (rd x2 x7) 0 (wrapI (b1_0 - 1))).bind fun t21=>if t21=true then(Zaw.l0 x2 (wrapI (x7+1)) b0_0 b1_0 b1_1)else(some false))else none)else none)else(some (decide ((x2.length:Int)=(b0_0.length:Int)))):=(Zv _ _ _ _).trans (by kernel_rfl)
noncomputable def Zaw.con:Con:=⟨Zaw.fn.ins,Zaw.fn.outs,Bool,fun x=>Zaw.f x.1 x.2.1 x.2.2.1 x.2.2.2.1,fun r=>((r,()),(()))⟩
theorem Zaw.valid:Valid Tryz.prog 193 Zaw.con:=fnV Zaw.fn Zaw.E Zaw.enc ⟨ttOk,(Zs Zbx.valid Zaq)⟩ Tryz.func193
end Go.Proofs.YthmcpmnhdbeahaaGreat.P
namespace Go.Proofs.YthmcpmnhdbeahaaGreat.P
open Go Go.RowKit Go.Proofs.YthmcpmnhdbeahaaGreat.D
noncomputable def Zbs.E:Env:={ tt:=TT,con:=[(109,ZD.con),(110,Zaf.con),(193,Zaw.con)],frz:=[],rows:=[],live:=[],n:=23,pin:=0,nils:=[] }
noncomputable def Zbs.fn:D.Fn:={ body:=Tryz.f126.body.getD .skip,res:=Tryz.f126.results.toList,ins:=[.agg [.v (.sl 27 (.sl 2 (.int .i64)))],.agg [.v (.int .i64),.v (.sl 2 (.int .i64))],.one (.v (.sl 2 (.int .i64)))],outs:=[.one (.v (.int .i64))] }
def Zbs.enc (y:lsd (flats Zbs.fn.outs)×lsd (ios Zbs.fn.ins)):Int:=y.1.1
noncomputable def Zbs.f (l0_0:List (List Int)) (a1_0:Int) (l1_1:List Int) (l2:List Int):Option Int:=denF Zbs.E Zbs.fn Zbs.enc (l0_0,a1_0,l1_1,l2,())
theorem Zbs.f_eq (l0_0:List (List Int)) (a1_0:Int) (l1_1:List Int) (l2:List Int):Zbs.f l0_0 a1_0 l1_1 l2=(ZD.f l0_0).bind fun t9=>if t9=true then((Zaf.f l0_0 a1_0 l1_1).bind fun t14=>if t14=true then((Zaw.f l0_0 a1_0 l1_1 l2).bind fun t21=>if t21=true then(some 0)else(some 2))else(some 1))else(some 1):=by kernel_rfl
noncomputable def Zbs.con:Con:=⟨Zbs.fn.ins,Zbs.fn.outs,Int,fun x=>Zbs.f x.1 x.2.1 x.2.2.1 x.2.2.2.1,fun r=>((r,()),(()))⟩
theorem Zbs.valid:Valid Tryz.prog 126 Zbs.con:=fnV Zbs.fn Zbs.E Zbs.enc ⟨ttOk,(Zs ZD.valid (Zs Zaf.valid (Zs Zaw.valid Zaq)))⟩ Tryz.func126
end Go.Proofs.YthmcpmnhdbeahaaGreat.P
namespace Go.Proofs.YthmcpmnhdbeahaaGreat.P
open Go Go.RowKit Go.Proofs.YthmcpmnhdbeahaaGreat.D
noncomputable def ZU.E:Env:={ tt:=TT,con:=[(91,Zao.con),(104,Za6.con)],frz:=[],rows:=[],live:=[(2,[2,3,4,7]),(5,[2,3,4,7,8])],n:=51,pin:=0,nils:=[] }
noncomputable def ZU.fn:D.Fn:={ body:=Tryz.f127.body.getD .skip,res:=Tryz.f127.results.toList,ins:=[.agg [.v (.sl 27 (.sl 2 (.int .i64)))],.agg [.v (.int .i64),.v (.sl 2 (.int .i64))],.one (.v (.sl 2 (.int .i64)))],outs:=[.one (.v .bool)] }
def ZU.enc (y:lsd (flats ZU.fn.outs)×lsd (ios ZU.fn.ins)):Bool:=y.1.1
noncomputable def ZU.f (l0_0:List (List Int)) (a1_0:Int) (l1_1:List Int) (l2:List Int):Option Bool:=denF ZU.E ZU.fn ZU.enc (l0_0,a1_0,l1_1,l2,())
noncomputable def ZU.l0 (x2:List Int) (x7:Int) (b0_0:List (List Int)) (b1_0:Int) (b1_1:List Int):Option Bool:=denAt ZU.E ZU.fn ZU.enc [1,0,1,0] { fr:=[(2,.lf (.sl (.int .i64) x2)),(3,.lf (.box 0 0)),(4,.lf (.box 1 0)),(7,.lf (.int .i64 x7))],ob:=[(0,.box 26 false [.sl (.sl 2 (.int .i64)) b0_0]),(1,.box 29 false [.int .i64 b1_0,.sl (.int .i64) b1_1])],nx:=2 }
noncomputable def ZU.l1 (x2:List Int) (x7:Int) (x8:Int) (b0_0:List (List Int)) (b1_0:Int) (b1_1:List Int):Option Bool:=denAt ZU.E ZU.fn ZU.enc [1,0,1,0,0,1,0,0,1,0] { fr:=[(2,.lf (.sl (.int .i64) x2)),(3,.lf (.box 0 0)),(4,.lf (.box 1 0)),(7,.lf (.int .i64 x7)),(8,.lf (.int .i64 x8))],ob:=[(0,.box 26 false [.sl (.sl 2 (.int .i64)) b0_0]),(1,.box 29 false [.int .i64 b1_0,.sl (.int .i64) b1_1])],nx:=2 }
theorem ZU.f_eq (l0_0:List (List Int)) (a1_0:Int) (l1_1:List Int) (l2:List Int):ZU.f l0_0 a1_0 l1_1 l2=ZU.l0 l2 0 l0_0 a1_0 l1_1:=by kernel_rfl
theorem ZU.l0_eq (x2:List Int) (x7:Int) (b0_0:List (List Int)) (b1_0:Int) (b1_1:List Int):ZU.l0 x2 x7 b0_0 b1_0 b1_1=(Zao.f b0_0).bind fun t11=>if x7 < t11 then(ZU.l1 x2 x7 0 b0_0 b1_0 b1_1)else(some true):=(Zv _ _ _ _).trans (by kernel_rfl)
theorem ZU.l1_eq (x2:List Int) (x7:Int) (x8:Int) (b0_0:List (List Int)) (b1_0:Int) (b1_1:List Int):ZU.l1 x2 x7 x8 b0_0 b1_0 b1_1=(Zao.f b0_0).bind fun t17=>if x8 < t17 then(if 0≤x7 then(if x7 < (b0_0.length:Int)then(if 0≤x8 then(if x8 < ((row b0_0 x7).length:Int)then(if 0≤T b0_0 x7 x8 then(if T b0_0 x7 x8 < (x2.length:Int)then(if 0≤x7 then(if x7 < (x2.length:Int)then(if 0≤x7 then(if x7 < (b1_1.length:Int)then(if 0≤x8 then(if x8 < (x2.length:Int)then((Za6.f (wrapI ((rd x2 x7)+(wrapI ((rd b1_1 x7)*(rd x2 x8))))) b1_0).bind fun t49=>if(rd x2 (T b0_0 x7 x8))=t49 then(ZU.l1 x2 x7 (wrapI (x8+1)) b0_0 b1_0 b1_1)else(some false))else none)else none)else none)else none)else none)else none)else none)else none)else none)else none)else none)else none)else(ZU.l0 x2 (wrapI (x7+1)) b0_0 b1_0 b1_1):=(Zv _ _ _ _).trans (by kernel_rfl)
noncomputable def ZU.con:Con:=⟨ZU.fn.ins,ZU.fn.outs,Bool,fun x=>ZU.f x.1 x.2.1 x.2.2.1 x.2.2.2.1,fun r=>((r,()),(()))⟩
theorem ZU.valid:Valid Tryz.prog 127 ZU.con:=fnV ZU.fn ZU.E ZU.enc ⟨ttOk,(Zs Zao.valid (Zs Za6.valid Zaq))⟩ Tryz.func127
end Go.Proofs.YthmcpmnhdbeahaaGreat.P
namespace Go.Proofs.YthmcpmnhdbeahaaGreat.P
open Go Go.RowKit Go.Proofs.YthmcpmnhdbeahaaGreat.D
noncomputable def Zbi.E:Env:={ tt:=TT,con:=[(126,Zbs.con),(127,ZU.con)],frz:=[],rows:=[],live:=[],n:=22,pin:=0,nils:=[] }
noncomputable def Zbi.fn:D.Fn:={ body:=Tryz.f90.body.getD .skip,res:=Tryz.f90.results.toList,ins:=[.agg [.v (.sl 27 (.sl 2 (.int .i64)))],.agg [.v (.int .i64),.v (.sl 2 (.int .i64))],.one (.v (.sl 2 (.int .i64)))],outs:=[.one (.v (.int .i64))] }
def Zbi.enc (y:lsd (flats Zbi.fn.outs)×lsd (ios Zbi.fn.ins)):Int:=y.1.1
noncomputable def Zbi.f (l0_0:List (List Int)) (a1_0:Int) (l1_1:List Int) (l2:List Int):Option Int:=denF Zbi.E Zbi.fn Zbi.enc (l0_0,a1_0,l1_1,l2,())
theorem Zbi.f_eq (l0_0:List (List Int)) (a1_0:Int) (l1_1:List Int) (l2:List Int):Zbi.f l0_0 a1_0 l1_1 l2=(Zbs.f l0_0 a1_0 l1_1 l2).bind fun t11=>if t11=0 then((ZU.f l0_0 a1_0 l1_1 l2).bind fun t18=>if t18=true then(some t11)else(some 5))else(some t11):=by kernel_rfl
noncomputable def Zbi.con:Con:=⟨Zbi.fn.ins,Zbi.fn.outs,Int,fun x=>Zbi.f x.1 x.2.1 x.2.2.1 x.2.2.2.1,fun r=>((r,()),(()))⟩
theorem Zbi.valid:Valid Tryz.prog 90 Zbi.con:=fnV Zbi.fn Zbi.E Zbi.enc ⟨ttOk,(Zs Zbs.valid (Zs ZU.valid Zaq))⟩ Tryz.func90
end Go.Proofs.YthmcpmnhdbeahaaGreat.P
namespace Go.Proofs.YthmcpmnhdbeahaaGreat.P
open Go Go.RowKit Go.Proofs.YthmcpmnhdbeahaaGreat.D
noncomputable def ZaE.E:Env:={ tt:=TT,con:=[(90,Zbi.con),(116,Z8.con)],frz:=[],rows:=[],live:=[],n:=20,pin:=0,nils:=[] }
noncomputable def ZaE.fn:D.Fn:={ body:=Tryz.f41.body.getD .skip,res:=Tryz.f41.results.toList,ins:=[.agg [.v (.sl 27 (.sl 2 (.int .i64)))],.agg [.v (.int .i64),.v (.sl 2 (.int .i64))],.one (.v (.sl 2 (.int .i64)))],outs:=[.one (.own 2 true (.int .i64)),.one (.v (.int .i64))] }
def ZaE.enc (y:lsd (flats ZaE.fn.outs)×lsd (ios ZaE.fn.ins)):(List Int)×Int:=(y.1.1,y.1.2.1)
noncomputable def ZaE.f (l0_0:List (List Int)) (a1_0:Int) (l1_1:List Int) (l2:List Int):Option ((List Int)×Int):=denF ZaE.E ZaE.fn ZaE.enc (l0_0,a1_0,l1_1,l2,())
theorem ZaE.f_eq (l0_0:List (List Int)) (a1_0:Int) (l1_1:List Int) (l2:List Int):ZaE.f l0_0 a1_0 l1_1 l2=(Zbi.f l0_0 a1_0 l1_1 l2).bind fun t12=>if t12=0 then((Z8.f l0_0 a1_0 l1_1 l2).bind fun t19=>some (t19,0))else(some (([]:List Int),t12)):=by kernel_rfl
noncomputable def ZaE.con:Con:=⟨ZaE.fn.ins,ZaE.fn.outs,(List Int)×Int,fun x=>ZaE.f x.1 x.2.1 x.2.2.1 x.2.2.2.1,fun r=>((r.1,r.2,()),(()))⟩
theorem ZaE.valid:Valid Tryz.prog 41 ZaE.con:=fnV ZaE.fn ZaE.E ZaE.enc ⟨ttOk,(Zs Zbi.valid (Zs Z8.valid Zaq))⟩ Tryz.func41
end Go.Proofs.YthmcpmnhdbeahaaGreat.P
namespace Go.Proofs.YthmcpmnhdbeahaaGreat.P
open Go Go.RowKit Go.Proofs.YthmcpmnhdbeahaaGreat.D
noncomputable def ZaR.E:Env:={ tt:=TT,con:=[(88,Zbd.con)],frz:=[],rows:=[],live:=[],n:=17,pin:=0,nils:=[] }
noncomputable def ZaR.fn:D.Fn:={ body:=Tryz.f42.body.getD .skip,res:=Tryz.f42.results.toList,ins:=[.one (.v (.sl 5 (.int .u8)))],outs:=[.agg [.v (.sl 27 (.sl 2 (.int .i64)))],.agg [.v (.int .i64),.v (.sl 2 (.int .i64))],.one (.own 2 true (.int .i64))] }
def ZaR.enc (y:lsd (flats ZaR.fn.outs)×lsd (ios ZaR.fn.ins)):(List (List Int))×Int×(List Int)×(List Int):=(y.1.1,y.1.2.1,y.1.2.2.1,y.1.2.2.2.1)
noncomputable def ZaR.f (l0:List Int):Option ((List (List Int))×Int×(List Int)×(List Int)):=denF ZaR.E ZaR.fn ZaR.enc (l0,())
theorem ZaR.f_eq (l0:List Int):ZaR.f l0=(Zbd.f l0).bind fun t10=>some (t10.1,t10.2.1,t10.2.2.1,t10.2.2.2):=by kernel_rfl
noncomputable def ZaR.con:Con:=⟨ZaR.fn.ins,ZaR.fn.outs,(List (List Int))×Int×(List Int)×(List Int),fun x=>ZaR.f x.1,fun r=>((r.1,r.2.1,r.2.2.1,r.2.2.2,()),(()))⟩
theorem ZaR.valid:Valid Tryz.prog 42 ZaR.con:=fnV ZaR.fn ZaR.E ZaR.enc ⟨ttOk,(Zs Zbd.valid Zaq)⟩ Tryz.func42
end Go.Proofs.YthmcpmnhdbeahaaGreat.P
namespace Go.Proofs.YthmcpmnhdbeahaaGreat.P
open Go Go.RowKit Go.Proofs.YthmcpmnhdbeahaaGreat.D
noncomputable def Zbl.E:Env:={ tt:=TT,con:=[(126,Zbs.con),(127,ZU.con)],frz:=[],rows:=[],live:=[],n:=20,pin:=0,nils:=[] }
noncomputable def Zbl.fn:D.Fn:={ body:=Tryz.f43.body.getD .skip,res:=Tryz.f43.results.toList,ins:=[.agg [.v (.sl 27 (.sl 2 (.int .i64)))],.agg [.v (.int .i64),.v (.sl 2 (.int .i64))],.one (.v (.sl 2 (.int .i64)))],outs:=[.one (.v .bool),.one (.v (.int .i64))] }
def Zbl.enc (y:lsd (flats Zbl.fn.outs)×lsd (ios Zbl.fn.ins)):Bool×Int:=(y.1.1,y.1.2.1)
noncomputable def Zbl.f (l0_0:List (List Int)) (a1_0:Int) (l1_1:List Int) (l2:List Int):Option (Bool×Int):=denF Zbl.E Zbl.fn Zbl.enc (l0_0,a1_0,l1_1,l2,())
theorem Zbl.f_eq (l0_0:List (List Int)) (a1_0:Int) (l1_1:List Int) (l2:List Int):Zbl.f l0_0 a1_0 l1_1 l2=(Zbs.f l0_0 a1_0 l1_1 l2).bind fun t12=>if t12=0 then((ZU.f l0_0 a1_0 l1_1 l2).bind fun t19=>some (decide (t19=true),0))else(some (false,t12)):=by kernel_rfl
noncomputable def Zbl.con:Con:=⟨Zbl.fn.ins,Zbl.fn.outs,Bool×Int,fun x=>Zbl.f x.1 x.2.1 x.2.2.1 x.2.2.2.1,fun r=>((r.1,r.2,()),(()))⟩
theorem Zbl.valid:Valid Tryz.prog 43 Zbl.con:=fnV Zbl.fn Zbl.E Zbl.enc ⟨ttOk,(Zs Zbs.valid (Zs ZU.valid Zaq))⟩ Tryz.func43
end Go.Proofs.YthmcpmnhdbeahaaGreat.P
namespace Go.Proofs.YthmcpmnhdbeahaaGreat.P
open Go Go.RowKit Go.Proofs.YthmcpmnhdbeahaaGreat.D
noncomputable def ZbF.E:Env:={ tt:=TT,con:=[(174,Zac.con),(175,Za2.con)],frz:=[11],rows:=[],live:=[],n:=17,pin:=1,nils:=[] }
noncomputable def ZbF.fn:D.Fn:={ body:=Tryz.f102.body.getD .skip,res:=Tryz.f102.results.toList,ins:=[.ptr false 143 [.v (.sl 5 (.int .u8)),.v (.int .i64),.v (.int .u64)],.one (.v (.int .i64))],outs:=[.one (.v (.int .i64))] }
def ZbF.enc (y:lsd (flats ZbF.fn.outs)×lsd (ios ZbF.fn.ins)):Int×(List Int)×Int×Int:=(y.1.1,y.2.1,y.2.2.1,y.2.2.2.1)
noncomputable def ZbF.f (l0_0:List Int) (a0_1:Int) (a0_2:Int) (a1:Int):Option (Int×(List Int)×Int×Int):=denF ZbF.E ZbF.fn ZbF.enc (l0_0,a0_1,a0_2,a1,())
theorem ZbF.f_eq (l0_0:List Int) (a0_1:Int) (a0_2:Int) (a1:Int):ZbF.f l0_0 a0_1 a0_2 a1=(Zac.f l0_0 a0_1 a0_2 14).bind fun t6=>if t6.1=0 then((Za2.f t6.2.1 t6.2.2.1 t6.2.2.2 ([-1,wrapI (a1+1),1099511627776,-4611686018427387904]:List Int)).bind fun t12=>some (t12.1,t12.2.1,t12.2.2.1,t12.2.2.2))else((Zac.f t6.2.1 t6.2.2.1 t6.2.2.2 (wrapI (a1+1))).bind fun t16=>some (t16.1,t16.2.1,t16.2.2.1,t16.2.2.2)):=by kernel_rfl
noncomputable def ZbF.con:Con:=⟨ZbF.fn.ins,ZbF.fn.outs,Int×(List Int)×Int×Int,fun x=>ZbF.f x.1 x.2.1 x.2.2.1 x.2.2.2.1,fun r=>((r.1,()),(r.2.1,r.2.2.1,r.2.2.2,()))⟩
theorem ZbF.valid:Valid Tryz.prog 102 ZbF.con:=fnV ZbF.fn ZbF.E ZbF.enc ⟨ttOk,(Zs Zac.valid (Zs Za2.valid Zaq))⟩ Tryz.func102
end Go.Proofs.YthmcpmnhdbeahaaGreat.P
namespace Go.Proofs.YthmcpmnhdbeahaaGreat.P
open Go Go.RowKit Go.Proofs.YthmcpmnhdbeahaaGreat.D
noncomputable def Zas.E:Env:={ tt:=TT,con:=[(106,Zbc.con),(100,ZaW.con),(102,ZbF.con)],frz:=[],rows:=[],live:=[],n:=17,pin:=0,nils:=[] }
noncomputable def Zas.fn:D.Fn:={ body:=Tryz.f44.body.getD .skip,res:=Tryz.f44.results.toList,ins:=[.one (.v (.sl 5 (.int .u8)))],outs:=[.agg [.v (.sl 27 (.sl 2 (.int .i64)))],.agg [.v (.int .i64),.v (.sl 2 (.int .i64))],.one (.v (.int .i64))] }
def Zas.enc (y:lsd (flats Zas.fn.outs)×lsd (ios Zas.fn.ins)):(List (List Int))×Int×(List Int)×Int:=(y.1.1,y.1.2.1,y.1.2.2.1,y.1.2.2.2.1)
noncomputable def Zas.f (l0:List Int):Option ((List (List Int))×Int×(List Int)×Int):=denF Zas.E Zas.fn Zas.enc (l0,())
theorem Zas.f_eq (l0:List Int):Zas.f l0=(Zbc.f l0).bind fun t9=>(ZaW.f l0).bind fun t15=>(ZbF.f t15.1 t15.2.1 t15.2.2 5).bind fun t16=>some (t9.1,t9.2.1,t9.2.2,t16.1):=by kernel_rfl
noncomputable def Zas.con:Con:=⟨Zas.fn.ins,Zas.fn.outs,(List (List Int))×Int×(List Int)×Int,fun x=>Zas.f x.1,fun r=>((r.1,r.2.1,r.2.2.1,r.2.2.2,()),(()))⟩
theorem Zas.valid:Valid Tryz.prog 44 Zas.con:=fnV Zas.fn Zas.E Zas.enc ⟨ttOk,(Zs Zbc.valid (Zs ZaW.valid (Zs ZbF.valid Zaq)))⟩ Tryz.func44
end Go.Proofs.YthmcpmnhdbeahaaGreat.P
namespace Go.Proofs.YthmcpmnhdbeahaaGreat.P
open Go Go.RowKit Go.Proofs.YthmcpmnhdbeahaaGreat.D
noncomputable def ZaY.E:Env:={ tt:=TT,con:=[(107,Zau.con),(93,Za3.con),(128,ZaO.con)],frz:=[],rows:=[11],live:=[],n:=25,pin:=0,nils:=[] }
noncomputable def ZaY.fn:D.Fn:={ body:=Tryz.f45.body.getD .skip,res:=Tryz.f45.results.toList,ins:=[.agg [.v (.sl 27 (.sl 2 (.int .i64)))],.agg [.v (.int .i64),.v (.sl 2 (.int .i64))],.one (.v (.int .i64))],outs:=[.one (.own 2 true (.int .i64)),.one (.v (.int .i64))] }
def ZaY.enc (y:lsd (flats ZaY.fn.outs)×lsd (ios ZaY.fn.ins)):(List Int)×Int:=(y.1.1,y.1.2.1)
noncomputable def ZaY.f (l0_0:List (List Int)) (a1_0:Int) (l1_1:List Int) (a2:Int):Option ((List Int)×Int):=denF ZaY.E ZaY.fn ZaY.enc (l0_0,a1_0,l1_1,a2,())
theorem ZaY.f_eq (l0_0:List (List Int)) (a1_0:Int) (l1_1:List Int) (a2:Int):ZaY.f l0_0 a1_0 l1_1 a2=(Zau.f l0_0 ([(a1_0,l1_1)]:List (Int×(List Int)))).bind fun t12=>if t12=0 then((Za3.f a1_0 ([a2]:List Int)).bind fun t20=>if t20=true then((ZaO.f a1_0 l1_1 a2).bind fun t24=>some (t24,0))else(some (([]:List Int),2)))else(some (([]:List Int),t12)):=by kernel_rfl
noncomputable def ZaY.con:Con:=⟨ZaY.fn.ins,ZaY.fn.outs,(List Int)×Int,fun x=>ZaY.f x.1 x.2.1 x.2.2.1 x.2.2.2.1,fun r=>((r.1,r.2,()),(()))⟩
theorem ZaY.valid:Valid Tryz.prog 45 ZaY.con:=fnV ZaY.fn ZaY.E ZaY.enc ⟨ttOk,(Zs Zau.valid (Zs Za3.valid (Zs ZaO.valid Zaq)))⟩ Tryz.func45
end Go.Proofs.YthmcpmnhdbeahaaGreat.P
namespace Go.Proofs.YthmcpmnhdbeahaaGreat.P
open Go Go.RowKit Go.Proofs.YthmcpmnhdbeahaaGreat.D
noncomputable def Za0.E:Env:={ tt:=TT,con:=[(109,ZD.con),(110,Zaf.con),(103,Zbx.con),(129,Z5.con)],frz:=[],rows:=[],live:=[],n:=29,pin:=0,nils:=[] }
noncomputable def Za0.fn:D.Fn:={ body:=Tryz.f46.body.getD .skip,res:=Tryz.f46.results.toList,ins:=[.agg [.v (.sl 27 (.sl 2 (.int .i64)))],.agg [.v (.int .i64),.v (.sl 2 (.int .i64))],.one (.v (.int .i64))],outs:=[.one (.own 2 true (.int .i64)),.one (.v (.int .i64))] }
def Za0.enc (y:lsd (flats Za0.fn.outs)×lsd (ios Za0.fn.ins)):(List Int)×Int:=(y.1.1,y.1.2.1)
noncomputable def Za0.f (l0_0:List (List Int)) (a1_0:Int) (l1_1:List Int) (a2:Int):Option ((List Int)×Int):=denF Za0.E Za0.fn Za0.enc (l0_0,a1_0,l1_1,a2,())
theorem Za0.f_eq (l0_0:List (List Int)) (a1_0:Int) (l1_1:List Int) (a2:Int):Za0.f l0_0 a1_0 l1_1 a2=(ZD.f l0_0).bind fun t10=>if t10=true then((Zaf.f l0_0 a1_0 l1_1).bind fun t15=>if t15=true then((Zbx.f a2 0 (wrapI (a1_0 - 1))).bind fun t23=>if t23=true then((Z5.f l0_0 a1_0 l1_1 a2).bind fun t28=>some (t28,0))else(some (([]:List Int),2)))else(some (([]:List Int),1)))else(some (([]:List Int),1)):=by kernel_rfl
noncomputable def Za0.con:Con:=⟨Za0.fn.ins,Za0.fn.outs,(List Int)×Int,fun x=>Za0.f x.1 x.2.1 x.2.2.1 x.2.2.2.1,fun r=>((r.1,r.2,()),(()))⟩
theorem Za0.valid:Valid Tryz.prog 46 Za0.con:=fnV Za0.fn Za0.E Za0.enc ⟨ttOk,(Zs ZD.valid (Zs Zaf.valid (Zs Zbx.valid (Zs Z5.valid Zaq))))⟩ Tryz.func46
end Go.Proofs.YthmcpmnhdbeahaaGreat.P
namespace Go.Proofs.YthmcpmnhdbeahaaGreat.P
open Go Go.RowKit Go.Proofs.YthmcpmnhdbeahaaGreat.D
noncomputable def Zaa.E:Env:={ tt:=TT,con:=[(88,Zbd.con)],frz:=[],rows:=[],live:=[],n:=17,pin:=0,nils:=[] }
noncomputable def Zaa.fn:D.Fn:={ body:=Tryz.f47.body.getD .skip,res:=Tryz.f47.results.toList,ins:=[.one (.v (.sl 5 (.int .u8)))],outs:=[.agg [.v (.sl 27 (.sl 2 (.int .i64)))],.agg [.v (.int .i64),.v (.sl 2 (.int .i64))],.one (.own 2 true (.int .i64))] }
def Zaa.enc (y:lsd (flats Zaa.fn.outs)×lsd (ios Zaa.fn.ins)):(List (List Int))×Int×(List Int)×(List Int):=(y.1.1,y.1.2.1,y.1.2.2.1,y.1.2.2.2.1)
noncomputable def Zaa.f (l0:List Int):Option ((List (List Int))×Int×(List Int)×(List Int)):=denF Zaa.E Zaa.fn Zaa.enc (l0,())
theorem Zaa.f_eq (l0:List Int):Zaa.f l0=(Zbd.f l0).bind fun t10=>some (t10.1,t10.2.1,t10.2.2.1,t10.2.2.2):=by kernel_rfl
noncomputable def Zaa.con:Con:=⟨Zaa.fn.ins,Zaa.fn.outs,(List (List Int))×Int×(List Int)×(List Int),fun x=>Zaa.f x.1,fun r=>((r.1,r.2.1,r.2.2.1,r.2.2.2,()),(()))⟩
theorem Zaa.valid:Valid Tryz.prog 47 Zaa.con:=fnV Zaa.fn Zaa.E Zaa.enc ⟨ttOk,(Zs Zbd.valid Zaq)⟩ Tryz.func47
end Go.Proofs.YthmcpmnhdbeahaaGreat.P
namespace Go.Proofs.YthmcpmnhdbeahaaGreat.P
open Go Go.RowKit Go.Proofs.YthmcpmnhdbeahaaGreat.D
noncomputable def ZQ.E:Env:={ tt:=TT,con:=[(90,Zbi.con),(91,Zao.con)],frz:=[],rows:=[],live:=[(6,[2,3,9,10])],n:=35,pin:=0,nils:=[] }
noncomputable def ZQ.fn:D.Fn:={ body:=Tryz.f48.body.getD .skip,res:=Tryz.f48.results.toList,ins:=[.agg [.v (.sl 27 (.sl 2 (.int .i64)))],.agg [.v (.int .i64),.v (.sl 2 (.int .i64))],.one (.v (.sl 2 (.int .i64)))],outs:=[.one (.own 2 true (.int .i64)),.one (.v (.int .i64))] }
def ZQ.enc (y:lsd (flats ZQ.fn.outs)×lsd (ios ZQ.fn.ins)):(List Int)×Int:=(y.1.1,y.1.2.1)
noncomputable def ZQ.f (l0_0:List (List Int)) (a1_0:Int) (l1_1:List Int) (l2:List Int):Option ((List Int)×Int):=denF ZQ.E ZQ.fn ZQ.enc (l0_0,a1_0,l1_1,l2,())
noncomputable def ZQ.l0 (x2:List Int) (x10:Int) (b0_0:List (List Int)) (r1:List Int):Option ((List Int)×Int):=denAt ZQ.E ZQ.fn ZQ.enc [1,1,1,0,1,0] { fr:=[(2,.lf (.sl (.int .i64) x2)),(3,.lf (.box 0 0)),(9,.lf (.own 1)),(10,.lf (.int .i64 x10))],ob:=[(0,.box 26 false [.sl (.sl 2 (.int .i64)) b0_0]),(1,.row 2 true (.int .i64) r1)],nx:=2 }
theorem ZQ.f_eq (l0_0:List (List Int)) (a1_0:Int) (l1_1:List Int) (l2:List Int):ZQ.f l0_0 a1_0 l1_1 l2=(Zbi.f l0_0 a1_0 l1_1 l2).bind fun t14=>if t14=0 then(ZQ.l0 l2 0 l0_0 ([]:List Int))else(some (([]:List Int),t14)):=by kernel_rfl
theorem ZQ.l0_eq (x2:List Int) (x10:Int) (b0_0:List (List Int)) (r1:List Int):ZQ.l0 x2 x10 b0_0 r1=(Zao.f b0_0).bind fun t21=>if x10 < t21 then(if 0≤x10 then(if x10 < (x2.length:Int)then(if(rd x2 x10)=0 then(if r1.length+([x10]:List Int).length≤17592186044416 then(ZQ.l0 x2 (wrapI (x10+1)) b0_0 (r1++([x10]:List Int)))else none)else(ZQ.l0 x2 (wrapI (x10+1)) b0_0 r1))else none)else none)else(some (r1,0)):=(Zv _ _ _ _).trans (by kernel_rfl)
noncomputable def ZQ.con:Con:=⟨ZQ.fn.ins,ZQ.fn.outs,(List Int)×Int,fun x=>ZQ.f x.1 x.2.1 x.2.2.1 x.2.2.2.1,fun r=>((r.1,r.2,()),(()))⟩
theorem ZQ.valid:Valid Tryz.prog 48 ZQ.con:=fnV ZQ.fn ZQ.E ZQ.enc ⟨ttOk,(Zs Zbi.valid (Zs Zao.valid Zaq))⟩ Tryz.func48
end Go.Proofs.YthmcpmnhdbeahaaGreat.P
namespace Go.Proofs.YthmcpmnhdbeahaaGreat.P
open Go Go.RowKit Go.Proofs.YthmcpmnhdbeahaaGreat.D
noncomputable def Zt.E:Env:={ tt:=TT,con:=[(7,ZbX.con),(27,Zaz.con),(28,ZaM.con),(29,ZaT.con),(30,Zam.con),(31,ZaB.con),(32,Zag.con),(33,ZM.con),(34,Zbt.con),(35,Za9.con),(19,Zat.con),(36,ZbM.con),(40,Zae.con),(41,ZaE.con),(42,ZaR.con),(43,Zbl.con),(44,Zas.con),(45,ZaY.con),(46,Za0.con),(47,Zaa.con),(37,Zak.con),(48,ZQ.con),(16,ZaA.con),(38,Zbb.con),(39,Zbk.con)],frz:=[67,73,79,91,97,168,203,209,255,263,270,275,303,310,315,323,330],rows:=[],live:=[(16,[0,3,4,5,9,17]),(23,[0,3,4,5,22]),(30,[0])],n:=371,pin:=0,nils:=[] }
noncomputable def Zt.fn:D.Fn:={ body:=Tryz.f4.body.getD .skip,res:=Tryz.f4.results.toList,ins:=[.one (.v (.sl 5 (.int .u8)))],outs:=[.one (.v .bool)] }
def Zt.enc (y:lsd (flats Zt.fn.outs)×lsd (ios Zt.fn.ins)):Bool:=y.1.1
noncomputable def Zt.f (l0:List Int):Option Bool:=denF Zt.E Zt.fn Zt.enc (l0,())
noncomputable def Zt.l0 (x0:List Int) (x5:List (List Int)) (x9:List (List Int)) (x17:Int) (b0_0:List (List Int)) (b1_0:Int) (b1_1:List Int):Option Bool:=denAt Zt.E Zt.fn Zt.enc [1,1,1,1,1,1,1,1,1,1,0,1,0,1,0,1,0] { fr:=[(0,.lf (.sl (.int .u8) x0)),(3,.lf (.box 0 0)),(4,.lf (.box 1 0)),(5,.lf (.sl (.sl 2 (.int .i64)) x5)),(9,.lf (.sl (.sl 2 (.int .i64)) x9)),(17,.lf (.int .i64 x17))],ob:=[(0,.box 26 false [.sl (.sl 2 (.int .i64)) b0_0]),(1,.box 29 false [.int .i64 b1_0,.sl (.int .i64) b1_1])],nx:=2 }
noncomputable def Zt.j1 (x0:List Int):Option Bool:=denAt Zt.E Zt.fn Zt.enc [1,1,1,1,1,1,1,1,1,1,1] { fr:=[(0,.lf (.sl (.int .u8) x0))],ob:=[],nx:=0 }
noncomputable def Zt.l2 (x0:List Int) (x5:List (List Int)) (x22:Int) (b0_0:List (List Int)) (b1_0:Int) (b1_1:List Int):Option Bool:=denAt Zt.E Zt.fn Zt.enc [1,1,1,1,1,1,1,1,1,1,0,1,0,1,1,1,0] { fr:=[(0,.lf (.sl (.int .u8) x0)),(3,.lf (.box 0 0)),(4,.lf (.box 1 0)),(5,.lf (.sl (.sl 2 (.int .i64)) x5)),(22,.lf (.int .i64 x22))],ob:=[(0,.box 26 false [.sl (.sl 2 (.int .i64)) b0_0]),(1,.box 29 false [.int .i64 b1_0,.sl (.int .i64) b1_1])],nx:=2 }
theorem Zt.f_eq (l0:List Int):Zt.f l0=(ZbX.f l0).bind fun t58=>if t58=true then(some true)else((Zaz.f l0).bind fun t61=>(ZaM.f t61.1 t61.2.1 t61.2.2).bind fun t67=>(ZaT.f t61.1 t61.2.1 t61.2.2).bind fun t73=>(Zam.f t61.1 t61.2.1 t61.2.2).bind fun t79=>(ZaB.f t61.1 t61.2.1 t61.2.2).bind fun t85=>(Zag.f t61.1 t61.2.1 t61.2.2).bind fun t91=>(ZM.f t61.1 t61.2.1 t61.2.2).bind fun t97=>if t67.2=t73.2 then((Zbt.f t67.1 t73.1).bind fun t106=>if t106=true then(if t79.2=t85.2 then((Zbt.f t79.1 t85.1).bind fun t117=>if t117=true then(if t91.2=t97.2 then((Zbt.f t91.1 t97.1).bind fun t128=>if t128=true then(if t67.2=0 then(if(t67.1.length:Int)=(wrapI ((t79.1.length:Int)*(t91.1.length:Int)))then(Zt.l0 l0 t67.1 t79.1 0 t61.1 t61.2.1 t61.2.2)else(some false))else(Zt.j1 l0))else(some false))else(some false))else(some false))else(some false))else(some false))else(some false)):=by kernel_rfl
theorem Zt.l0_eq (x0:List Int) (x5:List (List Int)) (x9:List (List Int)) (x17:Int) (b0_0:List (List Int)) (b1_0:Int) (b1_1:List Int):Zt.l0 x0 x5 x9 x17 b0_0 b1_0 b1_1=if x17 < (x9.length:Int)then(if x17 < 6 then(if 0≤x17 then(if x17 < (x9.length:Int)then((Za9.f b0_0 b1_0 b1_1 (row x9 x17)).bind fun t158=>if 0≤x17 then(if x17 < (x9.length:Int)then((Zat.f b0_0 b1_0 b1_1 (row x9 x17)).bind fun t168=>if t158.2=0 then(if t168.2=0 then(if t158.1=true then((ZbM.f t168.1).bind fun t183=>if t183=0 then(Zt.l0 x0 x5 x9 (wrapI (x17+1)) b0_0 b1_0 b1_1)else(some false))else(some false))else(some false))else(some false))else none)else none)else none)else none)else(Zt.l2 x0 x5 0 b0_0 b1_0 b1_1))else(Zt.l2 x0 x5 0 b0_0 b1_0 b1_1):=(Zv _ _ _ _).trans (by kernel_rfl)
theorem Zt.j1_eq (x0:List Int):Zt.j1 x0=(Zae.f x0).bind fun t255=>(Zat.f t255.1 t255.2.1 t255.2.2.1 t255.2.2.2).bind fun t263=>(ZaE.f t255.1 t255.2.1 t255.2.2.1 t255.2.2.2).bind fun t270=>(ZaR.f x0).bind fun t275=>(Za9.f t275.1 t275.2.1 t275.2.2.1 t275.2.2.2).bind fun t283=>(Zbl.f t275.1 t275.2.1 t275.2.2.1 t275.2.2.2).bind fun t290=>(Zas.f x0).bind fun t295=>(ZaY.f t295.1 t295.2.1 t295.2.2.1 t295.2.2.2).bind fun t303=>(Za0.f t295.1 t295.2.1 t295.2.2.1 t295.2.2.2).bind fun t310=>(Zaa.f x0).bind fun t315=>(Zak.f t315.1 t315.2.1 t315.2.2.1 t315.2.2.2).bind fun t323=>(ZQ.f t315.1 t315.2.1 t315.2.2.1 t315.2.2.2).bind fun t330=>if t263.2=t270.2 then((ZaA.f t263.1 t270.1).bind fun t339=>if t339=true then(if t283.2=t290.2 then(if(decide (t283.1=true))=(decide (t290.1=true))then(if t303.2=t310.2 then((ZaA.f t303.1 t310.1).bind fun t359=>if t359=true then(if t323.2=t330.2 then((ZaA.f t323.1 t330.1).bind fun t369=>some (decide (t369=true)))else(some false))else(some false))else(some false))else(some false))else(some false))else(some false))else(some false):=by kernel_rfl
theorem Zt.l2_eq (x0:List Int) (x5:List (List Int)) (x22:Int) (b0_0:List (List Int)) (b1_0:Int) (b1_1:List Int):Zt.l2 x0 x5 x22 b0_0 b1_0 b1_1=if x22 < (x5.length:Int)then(if x22 < 6 then(if 0≤x22 then(if x22 < (x5.length:Int)then((Zak.f b0_0 b1_0 b1_1 (row x5 x22)).bind fun t203=>(Zbb.f b0_0 t203.1).bind fun t209=>if 0≤x22 then(if x22 < (x5.length:Int)then(if 1≤((row x5 x22).length:Int)then((Zbk.f b0_0 b1_0 b1_1 1 ((row x5 x22).drop (1:Int).toNat)).bind fun t221=>if t203.2=0 then(if t209.2=0 then(if t221.2=0 then((ZaA.f t209.1 t203.1).bind fun t237=>if t237=true then(if t221.1=true then(if 0≤x22 then(if x22 < (x5.length:Int)then(if 0 < ((row x5 x22).length:Int)then(if(T x5 x22 0)=0 then(Zt.l2 x0 x5 (wrapI (x22+1)) b0_0 b1_0 b1_1)else(some false))else none)else none)else none)else(some false))else(some false))else(some false))else(some false))else(some false))else none)else none)else none)else none)else none)else(Zt.j1 x0))else(Zt.j1 x0):=(Zv _ _ _ _).trans (by kernel_rfl)
noncomputable def Zt.con:Con:=⟨Zt.fn.ins,Zt.fn.outs,Bool,fun x=>Zt.f x.1,fun r=>((r,()),(()))⟩
theorem Zt.valid:Valid Tryz.prog 4 Zt.con:=fnV Zt.fn Zt.E Zt.enc ⟨ttOk,(Zs ZbX.valid (Zs Zaz.valid (Zs ZaM.valid (Zs ZaT.valid (Zs Zam.valid (Zs ZaB.valid (Zs Zag.valid (Zs ZM.valid (Zs Zbt.valid (Zs Za9.valid (Zs Zat.valid (Zs ZbM.valid (Zs Zae.valid (Zs ZaE.valid (Zs ZaR.valid (Zs Zbl.valid (Zs Zas.valid (Zs ZaY.valid (Zs Za0.valid (Zs Zaa.valid (Zs Zak.valid (Zs ZQ.valid (Zs ZaA.valid (Zs Zbb.valid (Zs Zbk.valid Zaq)))))))))))))))))))))))))⟩ Tryz.func4
end Go.Proofs.YthmcpmnhdbeahaaGreat.P
namespace Go.Proofs.YthmcpmnhdbeahaaGreat.P
open Go Go.RowKit Go.Proofs.YthmcpmnhdbeahaaGreat.D
end Go.Proofs.YthmcpmnhdbeahaaGreat.P
namespace Go.Proofs.YthmcpmnhdbeahaaGreat.P
open Go Go.RowKit Go.Proofs.YthmcpmnhdbeahaaGreat.D
end Go.Proofs.YthmcpmnhdbeahaaGreat.P
namespace Go.Proofs.YthmcpmnhdbeahaaGreat.P
open Go Go.RowKit Go.Proofs.YthmcpmnhdbeahaaGreat.D
end Go.Proofs.YthmcpmnhdbeahaaGreat.P
namespace Go.Proofs.YthmcpmnhdbeahaaGreat.P
open Go Go.RowKit Go.Proofs.YthmcpmnhdbeahaaGreat.D
end Go.Proofs.YthmcpmnhdbeahaaGreat.P
namespace Go.Proofs.YthmcpmnhdbeahaaGreat.P
open Go Go.RowKit Go.Proofs.YthmcpmnhdbeahaaGreat.D
end Go.Proofs.YthmcpmnhdbeahaaGreat.P
namespace Go.Proofs.YthmcpmnhdbeahaaGreat.P
open Go Go.RowKit Go.Proofs.YthmcpmnhdbeahaaGreat.D
end Go.Proofs.YthmcpmnhdbeahaaGreat.P
namespace Go.Proofs.YthmcpmnhdbeahaaGreat.P
open Go Go.RowKit Go.Proofs.YthmcpmnhdbeahaaGreat.D
end Go.Proofs.YthmcpmnhdbeahaaGreat.P
namespace Go.Proofs.YthmcpmnhdbeahaaGreat.P
open Go Go.RowKit Go.Proofs.YthmcpmnhdbeahaaGreat.D
end Go.Proofs.YthmcpmnhdbeahaaGreat.P
namespace Go.Proofs.YthmcpmnhdbeahaaGreat.P
open Go Go.RowKit Go.Proofs.YthmcpmnhdbeahaaGreat.D
end Go.Proofs.YthmcpmnhdbeahaaGreat.P
namespace Go.Proofs.YthmcpmnhdbeahaaGreat.V
open Go Go.RowKit Go.Proofs.YthmcpmnhdbeahaaGreat.D
theorem w64 {x:Int} (h0 : -9223372036854775808≤x) (h1:x≤9223372036854775807):wrapI x=x:=by unfold wrapI;rw[ZcE];unfold wrap64;omega
theorem wn {j:Nat} (h:j < 4611686018427387904):wrapI ((j:Int)+1)=((j+1:Nat):Int):=by rw[w64 (by omega) (by omega)];omega
theorem Zq {α : Type} {p:Prop} {inst:Decidable p} {a b r : α} (h:p) (k:a=r):(if p then a else b)=r:=by rw[if_pos h];exact k
theorem Zp {α : Type} {p:Prop} {inst:Decidable p} {a b r : α} (h:¬ p) (k:b=r):(if p then a else b)=r:=by rw[if_neg h];exact k
theorem Zk {α β : Type} {c:Option α} {f : α → Option β} {a : α} {r:Option β} (h:c=some a) (k:f a=r):c.bind f=r:=by rw[h];exact k
theorem Zc0:maxLen≤9223372036854775807:=by unfold maxLen;omega
theorem ZbT {n:Nat} (h:n≤9223372036854775807):n≤maxLen:=by unfold maxLen;omega
noncomputable def ite_ {α : Type} (p:Prop) (a b : α) : α := @ite α p (Classical.propDecidable p) a b
theorem ZbU {α : Type} {p:Prop} (h:p) (a b : α):ite_ p a b=a:=by unfold ite_;simp[h]
theorem ZbW {α : Type} {p:Prop} (h:¬ p) (a b : α):ite_ p a b=b:=by unfold ite_;simp[h]
noncomputable def B (p:Prop):Bool := @decide p (Classical.propDecidable p)
theorem B_pos {p:Prop} (h:p):B p=true:=by unfold B;simp[h]
theorem B_neg {p:Prop} (h:¬ p):B p=false:=by unfold B;simp[h]
theorem B_not {p:Prop} (h:¬ p):¬ (B p=true):=by rw[B_neg h];decide
theorem B_iff {p:Prop}:B p=true↔p:=by unfold B;simp
theorem Zcf {p q:Prop} (h:p↔q):B p=B q:=by rw[show p=q from propext h]
theorem Zfu (p:Prop) {inst:Decidable p}:decide p=B p:=by by_cases h:p <;> simp[h,B]
theorem ZmY:B True=true:=B_pos trivial
theorem scan {R:Type} (n:Nat) (L:Int→R) (P:Int→Prop) (bad:R)
  (hs:∀i:Int,0≤i→i < n→(∀j:Int,0≤j→j < i→P j)→(P i→L i=L (i+1))∧(¬ P i→L i=bad)) :
  ((∀j:Int,0≤j→j < n→P j)∧L 0=L n)∨(∃m:Int,0≤m∧m < n∧(∀j:Int,0≤j→j < m→P j)∧¬ P m∧L 0=L m∧L 0=bad):=by
 suffices H:∀d m:Nat,m+d=n→(∀j:Int,0≤j→j < m→P j) →
   ((∀j:Int,0≤j→j < n→P j)∧L m=L n)∨(∃i:Int,0≤i∧i < n∧(∀j:Int,0≤j→j < i→P j)∧¬ P i∧L m=L i∧L m=bad)by
  simpa using H n 0 (by omega) (fun j h0 h1=>by omega)
 intro d
 induction d with
 | zero =>
  intro m hm hp
  have:(m:Int)=n:=by omega
  rw[this]at hp ⊢
  exact .inl ⟨hp,rfl⟩
 | succ d ih =>
  intro m hm hp
  obtain⟨h1,h2⟩:=hs m (by omega) (by omega) hp
  by_cases h:P m
  ·
   have hp' : ∀j:Int,0≤j→j < ((m+1:Nat):Int)→P j:=fun j h0 hj=>by
    by_cases e:j=m
    ·
     rw[e];exact h
    ·
     exact hp j h0 (by omega)
   have:=ih (m+1) (by omega) hp'
   rwa[Int.natCast_add,Int.natCast_one,←h1 h]at this
  ·
   exact .inr ⟨m,by omega,by omega,hp,h,rfl,h2 h⟩
theorem scanB (n:Nat) (L:Int→Option Bool) (P:Int→Prop) (Q:Prop)
  (hs:∀i:Int,0≤i→i < n→(∀j:Int,0≤j→j < i→P j)→(P i→L i=L (i+1))∧(¬ P i→L i=some false))
  (he:(∀j:Int,0≤j→j < n→P j)→L n=some (B Q)):L 0=some (B ((∀j:Int,0≤j→j < n→P j)∧Q)):=by
 rcases scan n L P (some false) hs with ⟨h1,h2⟩|⟨j,h0,h1,_,h2,_,h3⟩
 ·
  rw[Zcf (show((∀j:Int,0≤j→j < n→P j)∧Q)↔Q from⟨fun h=>h.2,fun h=>⟨h1,h⟩⟩),h2]
  exact he h1
 ·
  rw[B_neg fun h=>h2 (h.1 j h0 h1)]
  exact h3
theorem scanT (n:Nat) (L:Int→Option Bool) (P:Int→Prop)
  (hs:∀i:Int,0≤i→i < n→(∀j:Int,0≤j→j < i→P j)→(P i→L i=L (i+1))∧(¬ P i→L i=some false))
  (he:(∀j:Int,0≤j→j < n→P j)→L n=some true):L 0=some (B (∀j:Int,0≤j→j < n→P j)):=by
 have:=scanB n L P True hs (fun h=>by rw[ZmY];exact he h)
 rwa[Zcf (show((∀j:Int,0≤j→j < n→P j)∧True)↔_ from⟨fun h=>h.1,fun h=>⟨h,trivial⟩⟩)]at this
theorem scanI {R:Type} (n:Nat) (L:Int→R) (P:Int→Prop) (bad go:R)
  (hs:∀i:Int,0≤i→i < n→(∀j:Int,0≤j→j < i→P j)→(P i→L i=L (i+1))∧(¬ P i→L i=bad)) (he:(∀j:Int,0≤j→j < n→P j)→L n=go) :
  ((∀j:Int,0≤j→j < n→P j)→L 0=go)∧(¬ (∀j:Int,0≤j→j < n→P j)→L 0=bad):=by
 rcases scan n L P bad hs with ⟨h1,h2⟩|⟨j,h0,h1,_,h2,_,h3⟩
 ·
  exact⟨fun _=>h2.trans (he h1),fun h=>absurd h1 h⟩
 ·
  exact⟨fun h=>absurd (h j h0 h1) h2,fun _=>h3⟩
theorem up {R:Type} (n:Nat) (L:Nat→R) (h:∀i,i < n→L i=L (i+1)):L 0=L n:=by
 suffices H:∀m,m≤n→L 0=L m from H n (Nat.le_refl _)
 intro m
 induction m with
 | zero=>exact fun _=>rfl
 | succ m ih=>exact fun hm=>(ih (by omega)).trans (h m (by omega))
theorem Znk (xs:List Int) (j:Nat):rd xs (j:Int)=xs.getD j 0:=by simp[rd]
theorem rd_get {xs:List Int} {j:Nat} (h:j < xs.length):rd xs (j:Int)=xs[j]:=by simp[rd,List.getD_eq_getElem?_getD,List.getElem?_eq_getElem h]
theorem rd_at {xs:List Int} {i:Int} (h0:0≤i) (h1:i < xs.length):xs[i.toNat]? = some (rd xs i):=by
 have h:i.toNat < xs.length:=by omega
 simp[rd,List.getD_eq_getElem?_getD,List.getElem?_eq_getElem h]
theorem ZcC {xs:List Int} {i:Int} (h0:0≤i) (h1:i < xs.length):rd xs i∈xs:=List.mem_of_getElem? (rd_at h0 h1)
theorem ZfN {xs ys:List Int} (hl:xs.length=ys.length) (h:∀i:Int,0≤i→i < xs.length→rd xs i=rd ys i):xs=ys:=by
 apply List.ext_getElem hl
 intro i h1 h2
 have:=h i (by omega) (by omega)
 simpa [rd,List.getD_eq_getElem?_getD,List.getElem?_eq_getElem h1,List.getElem?_eq_getElem h2] using this
theorem ZdW {g:List (List Int)} {j:Nat} (h:j < g.length):row g (j:Int)=g[j]:=by simp[row,List.getD_eq_getElem?_getD,List.getElem?_eq_getElem h]
theorem Zeq {g:List (List Int)} {a:Int} (h0:0≤a) (h1:a < g.length):row g a∈g:=by
 have h:a.toNat < g.length:=by omega
 unfold row
 rw[List.getD_eq_getElem?_getD,List.getElem?_eq_getElem h]
 exact List.getElem_mem h
theorem Zis {g:List (List Int)} {r:List Int} (h:r∈g):∃i:Int,0≤i∧i < g.length∧row g i=r:=by
 obtain⟨i,hi,rfl⟩:=List.mem_iff_getElem.1 h
 exact⟨i,by omega,by omega,ZdW hi⟩
def AllIn (n:Int) (xs:List Int):Prop:=∀i:Int,0≤i→i < xs.length→0≤rd xs i∧rd xs i < n
theorem ZfD {n x:Int} (h0:0≤x) (h1:x < n):AllIn n [x]:=by
 intro i i0 i1
 have:i=0:=by simp at i1;omega
 subst this;simp[rd, *]
theorem Zhr {n x y:Int} (h0:0≤x) (h1:x < n) (h2:0≤y) (h3:y < n):AllIn n [x,y]:=by
 intro i i0 i1
 have:i=0∨i=1:=by simp at i1;omega
 rcases this with rfl|rfl <;> simp[rd, *]
theorem AllIn.mem {n:Int} {xs:List Int} (h:AllIn n xs) {x:Int} (hx:x∈xs):0≤x∧x < n:=by
 obtain⟨i,hi,rfl⟩:=List.mem_iff_getElem.1 hx
 have:=h i (by omega) (by omega)
 rwa[rd_get hi]at this
theorem Zb8 {n:Int} {xs:List Int} (h:∀x∈xs,0≤x∧x < n):AllIn n xs:=fun i i0 i1=>h _ (ZcC i0 i1)
theorem AllIn.drop {n:Int} {xs:List Int} (h:AllIn n xs) (j:Nat):AllIn n (xs.drop j):=Zb8 fun x hx=>h.mem (List.mem_of_mem_drop hx)
theorem AllIn.take {n:Int} {xs:List Int} (h:AllIn n xs) (j:Nat):AllIn n (xs.take j):=Zb8 fun x hx=>h.mem (List.mem_of_mem_take hx)
theorem AllIn.append {n:Int} {xs ys:List Int} (h:AllIn n xs) (k:AllIn n ys):AllIn n (xs++ys):=Zb8 fun x hx=>by
 rcases List.mem_append.1 hx with h' | h'
 ·
  exact h.mem h'
 ·
  exact k.mem h'
theorem ZcD {a m:Int} (h:0≤a):Int.tmod a m=a%m:=Int.tmod_eq_emod_of_nonneg h
theorem Zhm {a m:Int} (h:0≤a):Int.tdiv a m=a / m:=Int.tdiv_eq_ediv_of_nonneg h
end Go.Proofs.YthmcpmnhdbeahaaGreat.V
set_option maxHeartbeats 2000000
set_option maxRecDepth 20000
namespace Go.Proofs.YthmcpmnhdbeahaaGreat.V
open Go.RowKit Go.Proofs.YthmcpmnhdbeahaaGreat.D Go.Proofs.YthmcpmnhdbeahaaGreat.P
theorem areIn (n:Int) (xs:List Int) (hl:xs.length≤maxLen):Za3.f n xs=some (B (AllIn n xs)):=by
 have hm:=Zc0
 rw[Za3.f_eq]
 refine scanT xs.length (fun i=>Za3.l0 n xs (xs.length:Int) i) (fun i=>0≤rd xs i∧rd xs i < n) (fun i h0 h1 _ => ?_) (fun _ => ?_)
 ·
  refine⟨fun h => ?_,fun h => ?_⟩ <;> (rw[Za3.l0_eq])
  ·
   ((with_reducible repeat (first|refine Zq (by first|assumption|omega|rfl|exact B_pos (by omega)) ?_|refine Zp (by first|assumption|omega|decide|exact B_not (by omega)) ?_|refine Zk (by first|assumption) ?_|dsimp only));first|done|(with_reducible rfl)|simp (disch:=omega) only[w64]|(show False;done))
  ·
   by_cases h2:rd xs i < 0 <;> ((with_reducible repeat (first|refine Zq (by first|assumption|omega|rfl|exact B_pos (by omega)) ?_|refine Zp (by first|assumption|omega|decide|exact B_not (by omega)) ?_|refine Zk (by first|assumption) ?_|dsimp only));first|done|(with_reducible rfl)|simp (disch:=omega) only[w64]|(show False;done))
 ·
  (rw[Za3.l0_eq])
  ((with_reducible repeat (first|refine Zq (by first|assumption|omega|rfl|exact B_pos (by omega)) ?_|refine Zp (by first|assumption|omega|decide|exact B_not (by omega)) ?_|refine Zk (by first|assumption) ?_|dsimp only));first|done|(with_reducible rfl)|simp (disch:=omega) only[w64]|(show False;done))
theorem index_ (xs:List Int) (x:Int) (hl:xs.length≤maxLen) :
  ((∀i:Int,0≤i→i < xs.length→rd xs i≠x)∧ZT.f xs x=some (-1)) ∨
  ∃i:Int,0≤i∧i < xs.length∧(∀j:Int,0≤j→j < i→rd xs j≠x)∧rd xs i=x∧ZT.f xs x=some i:=by
 have hm:=Zc0
 rw[ZT.f_eq]
 suffices H:∀d m:Nat,m+d=xs.length→(∀j:Int,0≤j→j < m→rd xs j≠x) →
   ((∀i:Int,0≤i→i < xs.length→rd xs i≠x)∧ZT.l0 xs x (xs.length:Int) m=some (-1)) ∨
   ∃i:Int,0≤i∧i < xs.length∧(∀j:Int,0≤j→j < i→rd xs j≠x)∧rd xs i=x∧ZT.l0 xs x (xs.length:Int) m=some i from
  H xs.length 0 (by omega) (fun j h0 h1=>by omega)
 intro d
 induction d with
 | zero =>
  intro m hd hp
  obtain rfl:m=xs.length:=by omega
  refine .inl ⟨hp,?_⟩
  (rw[ZT.l0_eq])
  ((with_reducible repeat (first|refine Zq (by first|assumption|omega|rfl|exact B_pos (by omega)) ?_|refine Zp (by first|assumption|omega|decide|exact B_not (by omega)) ?_|refine Zk (by first|assumption) ?_|dsimp only));first|done|(with_reducible rfl)|simp (disch:=omega) only[w64]|(show False;done))
 | succ d ih =>
  intro m hd hp
  by_cases h2:x=rd xs m
  ·
   refine .inr ⟨m,by omega,by omega,hp,h2.symm,?_⟩
   (rw[ZT.l0_eq])
   ((with_reducible repeat (first|refine Zq (by first|assumption|omega|rfl|exact B_pos (by omega)) ?_|refine Zp (by first|assumption|omega|decide|exact B_not (by omega)) ?_|refine Zk (by first|assumption) ?_|dsimp only));first|done|(with_reducible rfl)|simp (disch:=omega) only[w64]|(show False;done))
  ·
   have st:ZT.l0 xs x (xs.length:Int) m=ZT.l0 xs x (xs.length:Int) ((m+1:Nat):Int):=by
    rw[Int.natCast_add,Int.natCast_one]
    (rw[ZT.l0_eq])
    ((with_reducible repeat (first|refine Zq (by first|assumption|omega|rfl|exact B_pos (by omega)) ?_|refine Zp (by first|assumption|omega|decide|exact B_not (by omega)) ?_|refine Zk (by first|assumption) ?_|dsimp only));first|done|(with_reducible rfl)|simp (disch:=omega) only[w64]|(show False;done))
   rw[st]
   refine ih (m+1) (by omega) fun j k0 k1 => ?_
   by_cases e:j=m
   ·
    rw[e];exact fun h=>h2 h.symm
   ·
    exact hp j k0 (by omega)
theorem Zhx (xs:List Int) (x:Int) (hl:xs.length≤maxLen):Zab.f xs x=some (B (∃i:Int,0≤i∧i < xs.length∧rd xs i=x)):=by
 rw[Zab.f_eq]
 rcases index_ xs x hl with ⟨h,e⟩|⟨i,h0,h1,_,h2,e⟩
 ·
  rw[e,B_neg fun⟨i,h0,h1,h2⟩=>h i h0 h1 h2];rfl
 ·
  rw[e,B_pos ⟨i,h0,h1,h2⟩];simp[h0]
structure Grp (g:List (List Int)):Prop where
 n1:1≤g.length
 n8:g.length≤8
 row:∀a:Int,0≤a→a < g.length→(row g a).length=g.length
 ent:∀a b:Int,0≤a→a < g.length→0≤b→b < g.length→0≤T g a b∧T g a b < g.length
 one:∀a:Int,0≤a→a < g.length→T g 0 a=a
 one' : ∀a:Int,0≤a→a < g.length→T g a 0=a
 assoc:∀a b c:Int,0≤a→a < g.length→0≤b→b < g.length→0≤c→c < g.length→T g (T g a b) c=T g a (T g b c)
 inv:∀a:Int,0≤a→a < g.length→∃b:Int,0≤b∧b < g.length∧T g a b=0
theorem Grp.inv2 {g:List (List Int)} (h:Grp g) {a:Int} (h0:0≤a) (h1:a < g.length):∃b:Int,0≤b∧b < g.length∧T g a b=0∧T g b a=0:=by
 obtain⟨b,b0,b1,hb⟩:=h.inv a h0 h1
 obtain⟨c,c0,c1,hc⟩:=h.inv b b0 b1
 refine⟨b,b0,b1,hb,?_⟩
 have hac:c=a:=by
  have e1:=h.assoc a b c h0 h1 b0 b1 c0 c1
  rw[hb,hc,h.one c c0 c1,h.one' a h0 h1]at e1
  exact e1
 rw[←hac];exact hc
theorem Zjj {g:List (List Int)} (hr:∀r∈g,r.length≤maxLen) {a:Int} (h0:0≤a) (h1:a < g.length):(row g a).length≤maxLen:=hr _ (Zeq h0 h1)
def Tab (g:List (List Int)):Prop:=∀a:Int,0≤a→a < g.length→(row g a).length=g.length∧AllIn g.length (row g a)
def Law (g:List (List Int)) (a:Int):Prop:=T g 0 a=a∧T g a 0=a∧(∃b:Int,0≤b∧b < g.length∧T g a b=0)∧∀b:Int,0≤b→b < g.length→∀c:Int,0≤c→c < g.length→T g (T g a b) c=T g a (T g b c)
theorem Zin (g:List (List Int)):Grp g↔(1≤g.length∧g.length≤8)∧Tab g∧∀a:Int,0≤a→a < g.length→Law g a:=by
 constructor
 ·
  intro h
  refine⟨⟨h.n1,h.n8⟩,fun a h0 h1=>⟨h.row a h0 h1,fun i i0 i1 => ?_⟩,fun a h0 h1=>⟨h.one a h0 h1,h.one' a h0 h1,h.inv a h0 h1,fun b b0 b1 c c0 c1=>h.assoc a b c h0 h1 b0 b1 c0 c1⟩⟩
  have:=h.row a h0 h1
  exact h.ent a i h0 h1 i0 (by omega)
 ·
  rintro⟨⟨h1,h8⟩,ht,hl⟩
  refine⟨h1,h8,fun a a0 a1=>(ht a a0 a1).1,fun a b a0 a1 b0 b1 => ?_,fun a a0 a1=>(hl a a0 a1).1,fun a a0 a1=>(hl a a0 a1).2.1,fun a b c a0 a1 b0 b1 c0 c1=>(hl a a0 a1).2.2.2 b b0 b1 c c0 c1,fun a a0 a1=>(hl a a0 a1).2.2.1⟩
  have:=(ht a a0 a1).1
  exact(ht a a0 a1).2 b b0 (by omega)
theorem Zko (g:List (List Int)) (hl:g.length≤maxLen) (hr:∀r∈g,r.length≤maxLen):ZI.f g=some (B (Grp g)):=by
 have hm:=Zc0
 rw[Zcf (Zin g)]
 (rw[ZI.f_eq])
 by_cases c1:(g.length:Int) < 1∨(g.length:Int) > 8
 ·
  rw[B_neg fun h=>by omega]
  by_cases c2:(g.length:Int) < 1 <;> ((with_reducible repeat (first|refine Zq (by first|assumption|omega|rfl|exact B_pos (by omega)) ?_|refine Zp (by first|assumption|omega|decide|exact B_not (by omega)) ?_|refine Zk (by first|assumption|exact Zan.f_eq _) ?_|dsimp only));first|done|(with_reducible rfl)|simp (disch:=omega) only[w64]|(show False;done))
 rw[Zcf (show((1≤g.length∧g.length≤8)∧Tab g∧∀a:Int,0≤a→a < g.length→Law g a)↔(Tab g∧∀a:Int,0≤a→a < g.length→Law g a)from⟨fun h=>h.2,fun h=>⟨by omega,h⟩⟩)]
 (with_reducible repeat (first|refine Zq (by first|assumption|omega|rfl|exact B_pos (by omega)) ?_|refine Zp (by first|assumption|omega|decide|exact B_not (by omega)) ?_|refine Zk (by first|assumption|exact Zan.f_eq _) ?_|dsimp only))
 refine scanB g.length (fun i=>ZI.l0 (g.length:Int) g (g.length:Int) i g) (fun a=>(row g a).length=g.length∧AllIn g.length (row g a)) _ (fun i h0 h1 _ => ?_) (fun ht => ?_)
 ·
  have ha:=areIn g.length (row g i) (Zjj hr h0 h1)
  refine⟨fun h => ?_,fun h => ?_⟩ <;> (rw[ZI.l0_eq])
  ·
   have h1:=h.1
   rw[B_pos h.2]at ha
   ((with_reducible repeat (first|refine Zq (by first|assumption|omega|rfl|exact B_pos (by omega)) ?_|refine Zp (by first|assumption|omega|decide|exact B_not (by omega)) ?_|refine Zk (by first|assumption) ?_|dsimp only));first|done|(with_reducible rfl)|simp (disch:=omega) only[w64]|(show False;done))
  ·
   by_cases h2:((row g i).length:Int)=g.length
   ·
    rw[B_neg fun h3=>h ⟨by omega,h3⟩]at ha
    ((with_reducible repeat (first|refine Zq (by first|assumption|omega|rfl|exact B_pos (by omega)) ?_|refine Zp (by first|assumption|omega|decide|exact B_not (by omega)) ?_|refine Zk (by first|assumption) ?_|dsimp only));first|done|(with_reducible rfl)|simp (disch:=omega) only[w64]|(show False;done))
   ·
    ((with_reducible repeat (first|refine Zq (by first|assumption|omega|rfl|exact B_pos (by omega)) ?_|refine Zp (by first|assumption|omega|decide|exact B_not (by omega)) ?_|refine Zk (by first|assumption) ?_|dsimp only));first|done|(with_reducible rfl)|simp (disch:=omega) only[w64]|(show False;done))
 (rw[ZI.l0_eq])
 (with_reducible repeat (first|refine Zq (by first|assumption|omega|rfl|exact B_pos (by omega)) ?_|refine Zp (by first|assumption|omega|decide|exact B_not (by omega)) ?_|refine Zk (by first|assumption) ?_|dsimp only))
 refine scanT g.length (fun i=>ZI.l1 (g.length:Int) (g.length:Int) i g) (Law g) (fun a a0 a1 _ => ?_) (fun _ => ?_)
 rotate_left
 ·
  (rw[ZI.l1_eq])
  ((with_reducible repeat (first|refine Zq (by first|assumption|omega|rfl|exact B_pos (by omega)) ?_|refine Zp (by first|assumption|omega|decide|exact B_not (by omega)) ?_|refine Zk (by first|assumption) ?_|dsimp only));first|done|(with_reducible rfl)|simp (disch:=omega) only[w64]|(show False;done))
 have hlen:∀x:Int,0≤x→x < g.length→((row g x).length:Int)=g.length:=fun x x0 x1=>by rw[(ht x x0 x1).1]
 have hent:∀x y:Int,0≤x→x < g.length→0≤y→y < g.length→0≤T g x y∧T g x y < g.length:=fun x y x0 x1 y0 y1=>(ht x x0 x1).2 y y0 (by rw[hlen x x0 x1];exact y1)
 have l0:=hlen 0 (by omega) (by omega)
 have la:=hlen a a0 a1
 have hc:=Zhx (row g a) 0 (Zjj hr a0 a1)
 rw[Zcf (show(∃i:Int,0≤i∧i < (row g a).length∧rd (row g a) i=0)↔∃b:Int,0≤b∧b < g.length∧T g a b=0 by rw[la];exact Iff.rfl)]at hc
 by_cases h2:T g 0 a=a
 rotate_left
 ·
  refine⟨fun h=>absurd h.1 h2,fun _ => ?_⟩
  (rw[ZI.l1_eq])
  ((with_reducible repeat (first|refine Zq (by first|assumption|omega|rfl|exact B_pos (by omega)) ?_|refine Zp (by first|assumption|omega|decide|exact B_not (by omega)) ?_|refine Zk (by first|assumption) ?_|dsimp only));first|done|(with_reducible rfl)|simp (disch:=omega) only[w64]|(show False;done))
 by_cases h3:T g a 0=a
 rotate_left
 ·
  refine⟨fun h=>absurd h.2.1 h3,fun _ => ?_⟩
  (rw[ZI.l1_eq])
  ((with_reducible repeat (first|refine Zq (by first|assumption|omega|rfl|exact B_pos (by omega)) ?_|refine Zp (by first|assumption|omega|decide|exact B_not (by omega)) ?_|refine Zk (by first|assumption) ?_|dsimp only));first|done|(with_reducible rfl)|simp (disch:=omega) only[w64]|(show False;done))
 by_cases h4:∃b:Int,0≤b∧b < g.length∧T g a b=0
 rotate_left
 ·
  refine⟨fun h=>absurd h.2.2.1 h4,fun _ => ?_⟩
  rw[B_neg h4]at hc
  (rw[ZI.l1_eq])
  ((with_reducible repeat (first|refine Zq (by first|assumption|omega|rfl|exact B_pos (by omega)) ?_|refine Zp (by first|assumption|omega|decide|exact B_not (by omega)) ?_|refine Zk (by first|assumption) ?_|dsimp only));first|done|(with_reducible rfl)|simp (disch:=omega) only[w64]|(show False;done))
 rw[B_pos h4]at hc
 have inner:=scanI g.length (fun b=>ZI.l2 (g.length:Int) a (g.length:Int) a (g.length:Int) b g) (fun b=>∀c:Int,0≤c→c < g.length→T g (T g a b) c=T g a (T g b c)) (some false) (ZI.l1 (g.length:Int) (g.length:Int) (a+1) g)
  (fun b b0 b1 _=>by
   obtain⟨e0,e1⟩:=hent a b a0 a1 b0 b1
   have le:=hlen _ e0 e1
   have lb:=hlen b b0 b1
   have:=scanI g.length (fun c=>ZI.l3 (g.length:Int) a b (g.length:Int) a (g.length:Int) b (g.length:Int) c g) (fun c=>T g (T g a b) c=T g a (T g b c)) (some false) (ZI.l2 (g.length:Int) a (g.length:Int) a (g.length:Int) (b+1) g)
    (fun c c0 c1 _=>by
     obtain⟨f0,f1⟩:=hent b c b0 b1 c0 c1
     refine⟨fun h => ?_,fun h => ?_⟩ <;> (rw[ZI.l3_eq]) <;> ((with_reducible repeat (first|refine Zq (by first|assumption|omega|rfl|exact B_pos (by omega)) ?_|refine Zp (by first|assumption|omega|decide|exact B_not (by omega)) ?_|refine Zk (by first|assumption) ?_|dsimp only));first|done|(with_reducible rfl)|simp (disch:=omega) only[w64]|(show False;done))) (fun _=>by(rw[ZI.l3_eq]);((with_reducible repeat (first|refine Zq (by first|assumption|omega|rfl|exact B_pos (by omega)) ?_|refine Zp (by first|assumption|omega|decide|exact B_not (by omega)) ?_|refine Zk (by first|assumption) ?_|dsimp only));first|done|(with_reducible rfl)|simp (disch:=omega) only[w64]|(show False;done)))
   refine⟨fun h => ?_,fun h => ?_⟩ <;> (rw[ZI.l2_eq])
   ·
    (with_reducible repeat (first|refine Zq (by first|assumption|omega|rfl|exact B_pos (by omega)) ?_|refine Zp (by first|assumption|omega|decide|exact B_not (by omega)) ?_|refine Zk (by first|assumption) ?_|dsimp only))
    exact this.1 h
   ·
    (with_reducible repeat (first|refine Zq (by first|assumption|omega|rfl|exact B_pos (by omega)) ?_|refine Zp (by first|assumption|omega|decide|exact B_not (by omega)) ?_|refine Zk (by first|assumption) ?_|dsimp only))
    exact this.2 h) (fun _=>by(rw[ZI.l2_eq]);((with_reducible repeat (first|refine Zq (by first|assumption|omega|rfl|exact B_pos (by omega)) ?_|refine Zp (by first|assumption|omega|decide|exact B_not (by omega)) ?_|refine Zk (by first|assumption) ?_|dsimp only));first|done|(with_reducible rfl)|simp (disch:=omega) only[w64]|(show False;done)))
 refine⟨fun h => ?_,fun h => ?_⟩ <;> (rw[ZI.l1_eq]) <;> (with_reducible repeat (first|refine Zq (by first|assumption|omega|rfl|exact B_pos (by omega)) ?_|refine Zp (by first|assumption|omega|decide|exact B_not (by omega)) ?_|refine Zk (by first|assumption) ?_|dsimp only))
 ·
  exact inner.1 h.2.2.2
 ·
  exact inner.2 fun k=>h ⟨h2,h3,h4,k⟩
end Go.Proofs.YthmcpmnhdbeahaaGreat.V
namespace Go.Proofs.YthmcpmnhdbeahaaGreat.V
open Go.RowKit Go.Proofs.YthmcpmnhdbeahaaGreat.D Go.Proofs.YthmcpmnhdbeahaaGreat.P
theorem In_ (x lo hi:Int):Zbx.f x lo hi=some (B (lo≤x∧x≤hi)):=by
 rw[Zbx.f_eq]
 by_cases h:x≥lo
 ·
  rw[if_pos h,Zfu,Zcf (show x≤hi↔(lo≤x∧x≤hi)from⟨fun h' => ⟨h,h'⟩,fun h' => h'.2⟩)]
 ·
  rw[if_neg h,B_neg (fun h' => h h'.1)]
def LawS (g:List (List Int)) (a:Int):Prop:=T g 0 a=a∧T g a 0=a∧(∀b:Int,0≤b→b < g.length→∀c:Int,0≤c→c < g.length→T g (T g a b) c=T g a (T g b c))∧∃b:Int,0≤b∧b < g.length∧T g a b=0∧T g b a=0
theorem Zlu (g:List (List Int)):Grp g↔(1≤g.length∧g.length≤8)∧Tab g∧∀a:Int,0≤a→a < g.length→LawS g a:=by
 rw[Zin]
 constructor
 ·
  intro h
  have hg:=(Zin g).2 h
  refine⟨h.1,h.2.1,fun a a0 a1 => ?_⟩
  obtain⟨h1,h2,_,h4⟩:=h.2.2 a a0 a1
  exact⟨h1,h2,h4,hg.inv2 a0 a1⟩
 ·
  rintro⟨h1,h2,h3⟩
  refine⟨h1,h2,fun a a0 a1 => ?_⟩
  obtain⟨k1,k2,k3,b,b0,b1,hb,_⟩:=h3 a a0 a1
  exact⟨k1,k2,⟨b,b0,b1,hb⟩,k3⟩
theorem Is_ (g:List (List Int)):ZD.f g=some (B (Grp g)):=by
 rw[Zcf (Zlu g)]
 (rw[ZD.f_eq])
 by_cases c1:1≤(g.length:Int)∧(g.length:Int)≤8
 rotate_left
 ·
  rw[B_neg fun h=>c1 (by omega)]
  ((with_reducible repeat (first|refine Zq (by first|assumption|omega|rfl|exact B_pos (by omega)) ?_|refine Zp (by first|assumption|omega|decide|exact B_not (by omega)) ?_|refine Zk (by first|assumption|exact In_ _ _ _) ?_|dsimp only));first|done|(with_reducible rfl)|simp (disch:=omega) only[w64]|(show False;done))
 rw[Zcf (show((1≤g.length∧g.length≤8)∧Tab g∧∀a:Int,0≤a→a < g.length→LawS g a)↔(Tab g∧∀a:Int,0≤a→a < g.length→LawS g a)from⟨fun h=>h.2,fun h=>⟨by omega,h⟩⟩)]
 (with_reducible repeat (first|refine Zq (by first|assumption|omega|rfl|exact B_pos (by omega)) ?_|refine Zp (by first|assumption|omega|decide|exact B_not (by omega)) ?_|refine Zk (by first|assumption|exact In_ _ _ _) ?_|dsimp only))
 have hw1:wrapI ((g.length:Int) - 1)=g.length - 1:=w64 (by omega) (by omega)
 refine scanB g.length (fun i=>ZD.l0 (g.length:Int) i g) (fun a=>(row g a).length=g.length∧AllIn g.length (row g a)) (∀a:Int,0≤a→a < g.length→LawS g a) (fun a a0 a1 _ => ?_) (fun ht => ?_)
 ·
  by_cases h2:((row g a).length:Int)=g.length
  rotate_left
  ·
   refine⟨fun h=>absurd h.1 (by omega),fun _ => ?_⟩
   (rw[ZD.l0_eq])
   ((with_reducible repeat (first|refine Zq (by first|assumption|omega|rfl|exact B_pos (by omega)) ?_|refine Zp (by first|assumption|omega|decide|exact B_not (by omega)) ?_|refine Zk (by first|assumption) ?_|dsimp only));first|done|(with_reducible rfl)|simp (disch:=omega) only[w64]|(show False;done))
  have inner:=scanI g.length (fun b=>ZD.l1 (g.length:Int) a b g) (fun b=>0≤T g a b∧T g a b < g.length) (some false) (ZD.l0 (g.length:Int) (a+1) g)
   (fun b b0 b1 _=>by refine⟨fun h => ?_,fun h => ?_⟩ <;> (rw[ZD.l1_eq,hw1]) <;> ((with_reducible repeat (first|refine Zq (by first|assumption|omega|rfl|exact B_pos (by omega)) ?_|refine Zp (by first|assumption|omega|decide|exact B_not (by omega)) ?_|refine Zk (by first|assumption|exact In_ _ _ _) ?_|dsimp only));first|done|(with_reducible rfl)|simp (disch:=omega) only[w64]|(show False;done))) (fun _=>by(rw[ZD.l1_eq]);((with_reducible repeat (first|refine Zq (by first|assumption|omega|rfl|exact B_pos (by omega)) ?_|refine Zp (by first|assumption|omega|decide|exact B_not (by omega)) ?_|refine Zk (by first|assumption) ?_|dsimp only));first|done|(with_reducible rfl)|simp (disch:=omega) only[w64]|(show False;done)))
  refine⟨fun h => ?_,fun h => ?_⟩ <;> (rw[ZD.l0_eq]) <;> (with_reducible repeat (first|refine Zq (by first|assumption|omega|rfl|exact B_pos (by omega)) ?_|refine Zp (by first|assumption|omega|decide|exact B_not (by omega)) ?_|refine Zk (by first|assumption) ?_|dsimp only))
  ·
   exact inner.1 fun j j0 j1=>h.2 j j0 (by omega)
  ·
   exact inner.2 fun k=>h ⟨by omega,fun j j0 j1=>k j j0 (by omega)⟩
 (rw[ZD.l0_eq])
 (with_reducible repeat (first|refine Zq (by first|assumption|omega|rfl|exact B_pos (by omega)) ?_|refine Zp (by first|assumption|omega|decide|exact B_not (by omega)) ?_|refine Zk (by first|assumption) ?_|dsimp only))
 refine scanT g.length (fun i=>ZD.l2 (g.length:Int) i g) (LawS g) (fun a a0 a1 _ => ?_) (fun _=>by(rw[ZD.l2_eq]);((with_reducible repeat (first|refine Zq (by first|assumption|omega|rfl|exact B_pos (by omega)) ?_|refine Zp (by first|assumption|omega|decide|exact B_not (by omega)) ?_|refine Zk (by first|assumption) ?_|dsimp only));first|done|(with_reducible rfl)|simp (disch:=omega) only[w64]|(show False;done)))
 have hlen:∀x:Int,0≤x→x < g.length→((row g x).length:Int)=g.length:=fun x x0 x1=>by rw[(ht x x0 x1).1]
 have hent:∀x y:Int,0≤x→x < g.length→0≤y→y < g.length→0≤T g x y∧T g x y < g.length:=fun x y x0 x1 y0 y1=>(ht x x0 x1).2 y y0 (by rw[hlen x x0 x1];exact y1)
 have l0:=hlen 0 (by omega) (by omega)
 have la:=hlen a a0 a1
 by_cases h2:T g 0 a=a
 rotate_left
 ·
  refine⟨fun h=>absurd h.1 h2,fun _ => ?_⟩
  (rw[ZD.l2_eq])
  ((with_reducible repeat (first|refine Zq (by first|assumption|omega|rfl|exact B_pos (by omega)) ?_|refine Zp (by first|assumption|omega|decide|exact B_not (by omega)) ?_|refine Zk (by first|assumption) ?_|dsimp only));first|done|(with_reducible rfl)|simp (disch:=omega) only[w64]|(show False;done))
 by_cases h3:T g a 0=a
 rotate_left
 ·
  refine⟨fun h=>absurd h.2.1 h3,fun _ => ?_⟩
  (rw[ZD.l2_eq])
  ((with_reducible repeat (first|refine Zq (by first|assumption|omega|rfl|exact B_pos (by omega)) ?_|refine Zp (by first|assumption|omega|decide|exact B_not (by omega)) ?_|refine Zk (by first|assumption) ?_|dsimp only));first|done|(with_reducible rfl)|simp (disch:=omega) only[w64]|(show False;done))
 let Fd:Int→Prop:=fun b=>∃j:Int,0≤j∧j < b∧T g a j=0∧T g j a=0
 have fd0:B (Fd 0)=false:=B_neg fun⟨j,j0,j1,_⟩=>by omega
 have inner:=scan g.length (fun b=>ZD.l3 (g.length:Int) a (B (Fd b)) b g) (fun b=>∀c:Int,0≤c→c < g.length→T g (T g a b) c=T g a (T g b c)) (some false) (fun b b0 b1 _=>by
  obtain⟨e0,e1⟩:=hent a b a0 a1 b0 b1
  have le:=hlen _ e0 e1
  have lb:=hlen b b0 b1
  have toj:ZD.l3 (g.length:Int) a (B (Fd b)) b g=ZD.l4 (g.length:Int) a (B (Fd (b+1))) b 0 g:=by
   by_cases k1:Fd b
   ·
    rw[B_pos k1,B_pos (show Fd (b+1)from by obtain⟨j,j0,j1,h⟩:=k1;exact⟨j,j0,by omega,h⟩)]
    (rw[ZD.l3_eq])
    ((with_reducible repeat (first|refine Zq (by first|assumption|omega|rfl|exact B_pos (by omega)) ?_|refine Zp (by first|assumption|omega|decide|exact B_not (by omega)) ?_|refine Zk (by first|assumption) ?_|dsimp only));first|done|(with_reducible rfl)|simp (disch:=omega) only[w64]|(show False;done))
   ·
    rw[B_neg k1]
    by_cases k2:T g a b=0
    ·
     have e:B (Fd (b+1))=decide (T g b a=0):=by
      by_cases k3:T g b a=0
      ·
       rw[B_pos ⟨b,b0,by omega,k2,k3⟩];simp[k3]
      ·
       rw[B_neg]
       ·
        simp[k3]
       ·
        rintro⟨j,j0,j1,ja,jb⟩
        by_cases ej:j=b
        ·
         subst ej;exact k3 jb
        ·
         exact k1 ⟨j,j0,by omega,ja,jb⟩
     rw[e]
     (rw[ZD.l3_eq])
     ((with_reducible repeat (first|refine Zq (by first|assumption|omega|rfl|exact B_pos (by omega)) ?_|refine Zp (by first|assumption|omega|decide|exact B_not (by omega)) ?_|refine Zk (by first|assumption) ?_|dsimp only));first|done|(with_reducible rfl)|simp (disch:=omega) only[w64]|(show False;done))
    ·
     rw[B_neg (show ¬ Fd (b+1)from by
      rintro⟨j,j0,j1,ja,jb⟩
      by_cases ej:j=b
      ·
       subst ej;exact k2 ja
      ·
       exact k1 ⟨j,j0,by omega,ja,jb⟩)]
     (rw[ZD.l3_eq])
     ((with_reducible repeat (first|refine Zq (by first|assumption|omega|rfl|exact B_pos (by omega)) ?_|refine Zp (by first|assumption|omega|decide|exact B_not (by omega)) ?_|refine Zk (by first|assumption) ?_|dsimp only));first|done|(with_reducible rfl)|simp (disch:=omega) only[w64]|(show False;done))
  have inner4:=scanI g.length (fun c=>ZD.l4 (g.length:Int) a (B (Fd (b+1))) b c g) (fun c=>T g (T g a b) c=T g a (T g b c)) (some false) (ZD.l3 (g.length:Int) a (B (Fd (b+1))) (b+1) g) (fun c c0 c1 _=>by
   obtain⟨f0,f1⟩:=hent b c b0 b1 c0 c1
   refine⟨fun h => ?_,fun h => ?_⟩ <;> (rw[ZD.l4_eq]) <;> ((with_reducible repeat (first|refine Zq (by first|assumption|omega|rfl|exact B_pos (by omega)) ?_|refine Zp (by first|assumption|omega|decide|exact B_not (by omega)) ?_|refine Zk (by first|assumption) ?_|dsimp only));first|done|(with_reducible rfl)|simp (disch:=omega) only[w64]|(show False;done))) (fun _=>by(rw[ZD.l4_eq]);((with_reducible repeat (first|refine Zq (by first|assumption|omega|rfl|exact B_pos (by omega)) ?_|refine Zp (by first|assumption|omega|decide|exact B_not (by omega)) ?_|refine Zk (by first|assumption) ?_|dsimp only));first|done|(with_reducible rfl)|simp (disch:=omega) only[w64]|(show False;done)))
  exact⟨fun h=>toj.trans (inner4.1 h),fun h=>toj.trans (inner4.2 h)⟩)
 have st:ZD.l2 (g.length:Int) a g=ZD.l3 (g.length:Int) a (B (Fd 0)) 0 g:=by
  rw[fd0]
  (rw[ZD.l2_eq])
  ((with_reducible repeat (first|refine Zq (by first|assumption|omega|rfl|exact B_pos (by omega)) ?_|refine Zp (by first|assumption|omega|decide|exact B_not (by omega)) ?_|refine Zk (by first|assumption) ?_|dsimp only));first|done|(with_reducible rfl)|simp (disch:=omega) only[w64]|(show False;done))
 rw[st]
 rcases inner with ⟨h5,h6⟩|⟨b,b0,b1,_,h5,_,h6⟩
 ·
  simp only[h6]
  by_cases h7:Fd g.length
  ·
   refine⟨fun _ => ?_,fun h=>absurd ⟨h2,h3,h5,h7⟩ h⟩
   rw[B_pos h7]
   (rw[ZD.l3_eq])
   ((with_reducible repeat (first|refine Zq (by first|assumption|omega|rfl|exact B_pos (by omega)) ?_|refine Zp (by first|assumption|omega|decide|exact B_not (by omega)) ?_|refine Zk (by first|assumption) ?_|dsimp only));first|done|(with_reducible rfl)|simp (disch:=omega) only[w64]|(show False;done))
  ·
   refine⟨fun h=>absurd h.2.2.2 h7,fun h => ?_⟩
   rw[B_neg h7]
   (rw[ZD.l3_eq])
   ((with_reducible repeat (first|refine Zq (by first|assumption|omega|rfl|exact B_pos (by omega)) ?_|refine Zp (by first|assumption|omega|decide|exact B_not (by omega)) ?_|refine Zk (by first|assumption) ?_|dsimp only));first|done|(with_reducible rfl)|simp (disch:=omega) only[w64]|(show False;done))
 ·
  exact⟨fun h=>absurd (h.2.2.1 b b0 b1) h5,fun _=>h6⟩
theorem gcd0 (y:Nat):∀x:Nat,ZbL.l0 (x:Int) (y:Int)=some ((Nat.gcd x y:Nat):Int):=by
 induction y using Nat.strongRecOn with
 | _ y ih =>
  intro x
  (rw[ZbL.l0_eq])
  by_cases h:y=0
  ·
   subst h
   simp
  ·
   have e:Int.tmod (x:Int) (y:Int)=((x%y:Nat):Int):=by rw[Int.ofNat_tmod]
   have:=ih (x%y) (Nat.mod_lt _ (by omega)) y
   rw[show Nat.gcd y (x%y)=Nat.gcd x y by rw[Nat.gcd_comm x y,Nat.gcd_rec y x,Nat.gcd_comm]]at this
   rw[e]
   (with_reducible repeat (first|refine Zq (by first|assumption|omega|rfl|exact B_pos (by omega)) ?_|refine Zp (by first|assumption|omega|decide|exact B_not (by omega)) ?_|refine Zk (by first|assumption) ?_|dsimp only))
   exact this
theorem gcd_ {a b:Int} (ha:0≤a) (hb:0≤b):ZbL.f a b=some ((Int.gcd a b:Nat):Int):=by
 obtain⟨x,rfl⟩:=Int.eq_ofNat_of_zero_le ha
 obtain⟨y,rfl⟩:=Int.eq_ofNat_of_zero_le hb
 have:=gcd0 y x
 rw[ZbL.f_eq]
 simpa [Int.gcd] using this
theorem Gcd0 (y:Nat):∀x:Nat,x≤9223372036854775807→y≤9223372036854775807→Zbe.l0 (x:Int) (y:Int)=some ((Nat.gcd x y:Nat):Int):=by
 induction y using Nat.strongRecOn with
 | _ y ih =>
  intro x hx hy
  (rw[Zbe.l0_eq])
  by_cases h:y=0
  ·
   subst h
   have hw:wrapI (0 - (x:Int)) = -(x:Int):=by rw[w64 (by omega) (by omega)];omega
   rw[hw,if_pos (by simp),if_neg (by omega)]
   simp
  ·
   have e:Int.tmod (x:Int) (y:Int)=((x%y:Nat):Int):=by rw[Int.ofNat_tmod]
   have hlt:=Nat.mod_lt x (show y > 0 by omega)
   have:=ih (x%y) hlt y hy (by omega)
   rw[show Nat.gcd y (x%y)=Nat.gcd x y by rw[Nat.gcd_comm x y,Nat.gcd_rec y x,Nat.gcd_comm]]at this
   rw[e]
   (with_reducible repeat (first|refine Zq (by first|assumption|omega|rfl|exact B_pos (by omega)) ?_|refine Zp (by first|assumption|omega|decide|exact B_not (by omega)) ?_|refine Zk (by first|assumption) ?_|dsimp only))
   exact this
theorem Gcd_ {a b:Int} (ha:0≤a) (hb:0≤b) (ha' : a≤9223372036854775807) (hb' : b≤9223372036854775807):Zbe.f a b=some ((Int.gcd a b:Nat):Int):=by
 obtain⟨x,rfl⟩:=Int.eq_ofNat_of_zero_le ha
 obtain⟨y,rfl⟩:=Int.eq_ofNat_of_zero_le hb
 have:=Gcd0 y x (by omega) (by omega)
 rw[Zbe.f_eq]
 simpa [Int.gcd] using this
theorem Grp.foldl_in {g:List (List Int)} (hg:Grp g):∀(xs:List Int) (x:Int),AllIn g.length xs→0≤x→x < g.length→0≤xs.foldl (T g) x∧xs.foldl (T g) x < g.length:=by
 intro xs
 induction xs with
 | nil=>exact fun x _ a b=>⟨a,b⟩
 | cons y ys ih =>
  intro x hx x0 x1
  obtain⟨y0,y1⟩:=hx.mem (List.mem_cons_self ..)
  obtain⟨z0,z1⟩:=hg.ent x y x0 x1 y0 y1
  exact ih _ (Zb8 fun z hz=>hx.mem (List.mem_cons_of_mem _ hz)) z0 z1
theorem ZfJ {xs:List Int} {m:Nat} (h:m < xs.length):xs.drop m=rd xs m :: xs.drop (m+1):=by
 rw[List.drop_eq_getElem_cons h,rd_get h]
theorem ZcR {xs:List Int} {m:Nat} (h:m < xs.length):xs.take (m+1)=xs.take m++[rd xs m]:=by
 rw[List.take_succ_eq_append_getElem h,rd_get h]
theorem times {g:List (List Int)} (hg:Grp g) (xs:List Int) (hx:AllIn g.length xs) (hl:xs.length≤maxLen):ZY.f g xs=some (xs.foldl (T g) 0):=by
 have hm:=Zc0
 have n1:=hg.n1
 rw[ZY.f_eq]
 have:=up xs.length (fun i=>ZY.l0 ((xs.take i).foldl (T g) 0) xs (xs.length:Int) (i:Int) g) (fun i hi=>by
  obtain⟨z0,z1⟩:=hg.foldl_in (xs.take i) 0 (hx.take i) (by omega) (by omega)
  obtain⟨y0,y1⟩:=hx i (by omega) (by omega)
  have hr:((row g ((xs.take i).foldl (T g) 0)).length:Int)=g.length:=by rw[hg.row _ z0 z1]
  have hw:wrapI ((i:Int)+1)=((i+1:Nat):Int):=by rw[w64 (by omega) (by omega)];omega
  rw[ZcR hi,List.foldl_append,List.foldl_cons,List.foldl_nil]
  (rw[ZY.l0_eq,hw])
  ((with_reducible repeat (first|refine Zq (by first|assumption|omega|rfl|exact B_pos (by omega)) ?_|refine Zp (by first|assumption|omega|decide|exact B_not (by omega)) ?_|refine Zk (by first|assumption) ?_|dsimp only));first|done|(with_reducible rfl)|simp (disch:=omega) only[w64]|(show False;done)))
 simp only[List.take_zero,List.foldl_nil,List.take_length,Int.natCast_zero]at this
 rw[this]
 (rw[ZY.l0_eq])
 ((with_reducible repeat (first|refine Zq (by first|assumption|omega|rfl|exact B_pos (by omega)) ?_|refine Zp (by first|assumption|omega|decide|exact B_not (by omega)) ?_|refine Zk (by first|assumption) ?_|dsimp only));first|done|(with_reducible rfl)|simp (disch:=omega) only[w64]|(show False;done))
theorem times2 {g:List (List Int)} (hg:Grp g) {x y:Int} (x0:0≤x) (x1:x < g.length) (y0:0≤y) (y1:y < g.length):ZY.f g [x,y]=some (T g x y):=by
 have:=times hg [x,y] (Zhr x0 x1 y0 y1) (by unfold maxLen;simp)
 simpa [hg.one x x0 x1] using this
end Go.Proofs.YthmcpmnhdbeahaaGreat.V
namespace Go.Proofs.YthmcpmnhdbeahaaGreat.V
open Go.RowKit Go.Proofs.YthmcpmnhdbeahaaGreat.D Go.Proofs.YthmcpmnhdbeahaaGreat.P
structure Mdl (g:List (List Int)) (m:Int) (u:List Int):Prop where
 m2:2≤m
 m12:m≤12
 len:u.length=g.length
 unit:∀i:Int,0≤i→i < u.length→1≤rd u i∧rd u i < m∧Int.gcd (rd u i) m=1
 hom:∀i:Int,0≤i→i < u.length→∀j:Int,0≤j→j < u.length→rd u (T g i j)=rd u i*rd u j%m
theorem ZlZ:∀m:Nat,m≤12→∀u:Nat,u < m→Nat.gcd u m=1→u=u*u%m→1≤u→u=1:=by decide
theorem Mdl.one {g:List (List Int)} {m:Int} {u:List Int} (hg:Grp g) (h:Mdl g m u):rd u 0=1:=by
 have n1:=hg.n1
 have hl:=h.len
 obtain⟨a1,a2,a3⟩:=h.unit 0 (by omega) (by omega)
 have e:=h.hom 0 (by omega) (by omega) 0 (by omega) (by omega)
 rw[hg.one 0 (by omega) (by omega)]at e
 have m2:=h.m2;have m12:=h.m12
 obtain⟨M,rfl⟩:=Int.eq_ofNat_of_zero_le (show 0≤m by omega)
 obtain⟨U,hU⟩:=Int.eq_ofNat_of_zero_le (show 0≤rd u 0 by omega)
 rw[hU]at a1 a2 a3 e ⊢
 have:=ZlZ M (by omega) U (by omega) (by simpa [Int.gcd] using a3) (by exact_mod_cast e) (by omega)
 omega
theorem Zc6 {a b m:Int} (a0:0≤a) (a1:a < m) (b0:0≤b) (b1:b < m) (hm:m≤1000):0≤a*b∧a*b≤1000000:=by
 refine⟨Int.mul_nonneg a0 b0,?_⟩
 have h1:a*b≤1000*b:=Int.mul_le_mul_of_nonneg_right (by omega) b0
 omega
theorem Mdl.at {g:List (List Int)} {m:Int} {u:List Int} (h:Mdl g m u) {x:Int} (x0:0≤x) (x1:x < g.length):1≤rd u x∧rd u x < m:=by
 have hl:=h.len
 obtain⟨a,b,_⟩:=h.unit x x0 (by omega)
 exact⟨a,b⟩
theorem ZcK {m x:Int} {u:List Int} {g:List (List Int)} (hm:Mdl g m u) (x0:0≤x) (x1:x < g.length) {b:Int} (b0:0≤b) (b1:b < m):0≤rd u x*b∧rd u x*b≤1000000:=by
 have m12:=hm.m12
 have:=hm.at x0 x1
 exact Zc6 (by omega) this.2 b0 b1 (by omega)
theorem Zm9 {m x:Int} (m0:0≤m):ZbJ.f m x=some (B (1≤x∧x < m∧Int.gcd x m=1)):=by
 rw[ZbJ.f_eq]
 by_cases h1:1≤x∧x < m
 ·
  have h:=gcd_ m0 (show 0≤x by omega)
  (with_reducible repeat (first|refine Zq (by first|assumption|omega|rfl|exact B_pos (by omega)) ?_|refine Zp (by first|assumption|omega|decide|exact B_not (by omega)) ?_|refine Zk (by first|assumption) ?_|dsimp only))
  rw[Int.gcd_comm]
  by_cases h3:Int.gcd x m=1
  ·
   rw[B_pos ⟨h1.1,h1.2,h3⟩];simp[h3]
  ·
   rw[B_neg fun h=>h3 h.2.2]
   simp;omega
 ·
  rw[B_neg fun h=>h1 ⟨h.1,h.2.1⟩]
  by_cases h2:1≤x <;> ((with_reducible repeat (first|refine Zq (by first|assumption|omega|rfl|exact B_pos (by omega)) ?_|refine Zp (by first|assumption|omega|decide|exact B_not (by omega)) ?_|refine Zk (by first|assumption) ?_|dsimp only));first|done|(with_reducible rfl)|simp (disch:=omega) only[w64]|(show False;done))
theorem ZeC (m:Int):Zbp.f m=some (B (2≤m∧m≤12)):=by
 rw[Zbp.f_eq]
 by_cases h:m≥2
 ·
  rw[if_pos h,Zfu,Zcf (show m≤12↔(2≤m∧m≤12)from⟨fun h' => ⟨h,h'⟩,fun h' => h'.2⟩)]
 ·
  rw[if_neg h,B_neg (fun h' => h h'.1)]
theorem Zkw (g:List (List Int)) (m:Int) (u:List Int):Mdl g m u↔(2≤m∧m≤12)∧u.length=g.length∧(∀i:Int,0≤i→i < u.length→1≤rd u i∧rd u i < m∧Int.gcd (rd u i) m=1)∧∀i:Int,0≤i→i < u.length→∀j:Int,0≤j→j < u.length→rd u (T g i j)=rd u i*rd u j%m :=
 ⟨fun h=>⟨⟨h.m2,h.m12⟩,h.len,h.unit,h.hom⟩,fun⟨⟨a,b⟩,c,d,e⟩=>⟨a,b,c,d,e⟩⟩
theorem ZlA {g:List (List Int)} (hg:Grp g) (m:Int) (u:List Int) (hl:u.length≤maxLen):ZW.f g m u=some (B (Mdl g m u)):=by
 have hm:=Zc0
 have n1:=hg.n1
 (rw[ZW.f_eq])
 by_cases h1:2≤m∧m≤12
 rotate_left
 ·
  rw[B_neg fun h=>h1 ⟨h.m2,h.m12⟩]
  ((with_reducible repeat (first|refine Zq (by first|assumption|omega|rfl|exact B_pos (by omega)) ?_|refine Zp (by first|assumption|omega|decide|exact B_not (by omega)) ?_|refine Zk (by first|assumption|exact ZeC _|exact Zan.f_eq _) ?_|dsimp only));first|done|(with_reducible rfl)|simp (disch:=omega) only[w64]|(show False;done))
 by_cases h3:(u.length:Int)=g.length
 rotate_left
 ·
  rw[B_neg fun h=>h3 (by rw[h.len])]
  ((with_reducible repeat (first|refine Zq (by first|assumption|omega|rfl|exact B_pos (by omega)) ?_|refine Zp (by first|assumption|omega|decide|exact B_not (by omega)) ?_|refine Zk (by first|assumption|exact ZeC _|exact Zan.f_eq _) ?_|dsimp only));first|done|(with_reducible rfl)|simp (disch:=omega) only[w64]|(show False;done))
 by_cases h5:rd u 0=1
 rotate_left
 ·
  rw[B_neg fun h=>h5 (h.one hg)]
  ((with_reducible repeat (first|refine Zq (by first|assumption|omega|rfl|exact B_pos (by omega)) ?_|refine Zp (by first|assumption|omega|decide|exact B_not (by omega)) ?_|refine Zk (by first|assumption|exact ZeC _|exact Zan.f_eq _) ?_|dsimp only));first|done|(with_reducible rfl)|simp (disch:=omega) only[w64]|(show False;done))
 (with_reducible repeat (first|refine Zq (by first|assumption|omega|rfl|exact B_pos (by omega)) ?_|refine Zp (by first|assumption|omega|decide|exact B_not (by omega)) ?_|refine Zk (by first|assumption|exact ZeC _|exact Zan.f_eq _) ?_|dsimp only))
 rw[Zcf (Zkw g m u),Zcf (show((2≤m∧m≤12)∧u.length=g.length∧(∀i:Int,0≤i→i < u.length→1≤rd u i∧rd u i < m∧Int.gcd (rd u i) m=1)∧∀i:Int,0≤i→i < u.length→∀j:Int,0≤j→j < u.length→rd u (T g i j)=rd u i*rd u j%m)↔_ from⟨fun h=>h.2.2,fun h=>⟨h1,by omega,h⟩⟩)]
 refine scanB u.length (fun i=>ZW.l0 u (u.length:Int) i g m u) (fun i=>1≤rd u i∧rd u i < m∧Int.gcd (rd u i) m=1) _ (fun i i0 i1 _ => ?_) (fun hu => ?_)
 ·
  have hu:=Zm9 (m:=m) (x:=rd u i) (by omega)
  refine⟨fun h => ?_,fun h => ?_⟩ <;> (rw[ZW.l0_eq]) <;> ((with_reducible repeat (first|refine Zq (by first|assumption|omega|rfl|exact B_pos (by omega)) ?_|refine Zp (by first|assumption|omega|decide|exact B_not (by omega)) ?_|refine Zk (by first|assumption) ?_|dsimp only));first|done|(with_reducible rfl)|simp (disch:=omega) only[w64]|(show False;done))
 (rw[ZW.l0_eq])
 (with_reducible repeat (first|refine Zq (by first|assumption|omega|rfl|exact B_pos (by omega)) ?_|refine Zp (by first|assumption|omega|decide|exact B_not (by omega)) ?_|refine Zk (by first|assumption|exact Zan.f_eq _) ?_|dsimp only))
 rw[←h3]
 refine scanT u.length (fun i=>ZW.l1 (u.length:Int) i g m u) (fun i=>∀j:Int,0≤j→j < u.length→rd u (T g i j)=rd u i*rd u j%m) (fun i i0 i1 _ => ?_) (fun _=>by(rw[ZW.l1_eq]);((with_reducible repeat (first|refine Zq (by first|assumption|omega|rfl|exact B_pos (by omega)) ?_|refine Zp (by first|assumption|omega|decide|exact B_not (by omega)) ?_|refine Zk (by first|assumption) ?_|dsimp only));first|done|(with_reducible rfl)|simp (disch:=omega) only[w64]|(show False;done)))
 have inner:=scanI u.length (fun j=>ZW.l2 i (u.length:Int) i (u.length:Int) j g m u) (fun j=>rd u (T g i j)=rd u i*rd u j%m) (some false) (ZW.l1 (u.length:Int) (i+1) g m u) (fun j j0 j1 _=>by
  have ht:=times2 hg i0 (by omega) j0 (by omega)
  obtain⟨e0,e1⟩:=hg.ent i j i0 (by omega) j0 (by omega)
  obtain⟨p0,p1⟩:=Zc6 (show 0≤rd u i by have:=(hu i i0 i1).1;omega) (hu i i0 i1).2.1 (show 0≤rd u j by have:=(hu j j0 j1).1;omega) (hu j j0 j1).2.1 (by omega)
  have hwp:wrapI (rd u i*rd u j)=rd u i*rd u j:=w64 (by omega) (by omega)
  have e:=ZcD (m:=m) p0
  refine⟨fun h => ?_,fun h => ?_⟩ <;> (rw[ZW.l2_eq,hwp,e]) <;> ((with_reducible repeat (first|refine Zq (by first|assumption|omega|rfl|exact B_pos (by omega)) ?_|refine Zp (by first|assumption|omega|decide|exact B_not (by omega)) ?_|refine Zk (by first|assumption) ?_|dsimp only));first|done|(with_reducible rfl)|simp (disch:=omega) only[w64]|(show False;done))) (fun _=>by(rw[ZW.l2_eq]);((with_reducible repeat (first|refine Zq (by first|assumption|omega|rfl|exact B_pos (by omega)) ?_|refine Zp (by first|assumption|omega|decide|exact B_not (by omega)) ?_|refine Zk (by first|assumption) ?_|dsimp only));first|done|(with_reducible rfl)|simp (disch:=omega) only[w64]|(show False;done)))
 refine⟨fun h => ?_,fun h => ?_⟩ <;> (rw[ZW.l1_eq]) <;> (with_reducible repeat (first|refine Zq (by first|assumption|omega|rfl|exact B_pos (by omega)) ?_|refine Zp (by first|assumption|omega|decide|exact B_not (by omega)) ?_|refine Zk (by first|assumption|exact Zan.f_eq _) ?_|dsimp only)) <;> rw[←h3]
 ·
  exact inner.1 h
 ·
  exact inner.2 h
theorem Is02 {g:List (List Int)} (hg:Grp g) (m:Int) (u:List Int) (hl:u.length≤maxLen):Zaf.f g m u=some (B (Mdl g m u)):=by
 have hm:=Zc0
 have n1:=hg.n1
 (rw[Zaf.f_eq])
 by_cases h1:2≤m∧m≤12
 rotate_left
 ·
  rw[B_neg fun h=>h1 ⟨h.m2,h.m12⟩]
  ((with_reducible repeat (first|refine Zq (by first|assumption|omega|rfl|exact B_pos (by omega)) ?_|refine Zp (by first|assumption|omega|decide|exact B_not (by omega)) ?_|refine Zk (by first|assumption|exact In_ _ _ _) ?_|dsimp only));first|done|(with_reducible rfl)|simp (disch:=omega) only[w64]|(show False;done))
 by_cases h3:(u.length:Int)=g.length
 rotate_left
 ·
  rw[B_neg fun h=>h3 (by rw[h.len])]
  ((with_reducible repeat (first|refine Zq (by first|assumption|omega|rfl|exact B_pos (by omega)) ?_|refine Zp (by first|assumption|omega|decide|exact B_not (by omega)) ?_|refine Zk (by first|assumption|exact In_ _ _ _) ?_|dsimp only));first|done|(with_reducible rfl)|simp (disch:=omega) only[w64]|(show False;done))
 (with_reducible repeat (first|refine Zq (by first|assumption|omega|rfl|exact B_pos (by omega)) ?_|refine Zp (by first|assumption|omega|decide|exact B_not (by omega)) ?_|refine Zk (by first|assumption|exact In_ _ _ _) ?_|dsimp only))
 rw[Zcf (Zkw g m u),Zcf (show((2≤m∧m≤12)∧u.length=g.length∧(∀i:Int,0≤i→i < u.length→1≤rd u i∧rd u i < m∧Int.gcd (rd u i) m=1)∧∀i:Int,0≤i→i < u.length→∀j:Int,0≤j→j < u.length→rd u (T g i j)=rd u i*rd u j%m)↔_ from⟨fun h=>h.2.2,fun h=>⟨h1,by omega,h⟩⟩)]
 have hw1:wrapI (m - 1)=m - 1:=w64 (by omega) (by omega)
 refine scanB u.length (fun i=>Zaf.l0 i g m u) (fun i=>1≤rd u i∧rd u i < m∧Int.gcd (rd u i) m=1) _ (fun i i0 i1 _ => ?_) (fun hu => ?_)
 ·
  refine⟨fun h => ?_,fun h => ?_⟩ <;> (rw[Zaf.l0_eq,hw1])
  ·
   have hgc:=Gcd_ (a:=rd u i) (b:=m) (by omega) (by omega) (by omega) (by omega)
   ((with_reducible repeat (first|refine Zq (by first|assumption|omega|rfl|exact B_pos (by omega)) ?_|refine Zp (by first|assumption|omega|decide|exact B_not (by omega)) ?_|refine Zk (by first|assumption|exact In_ _ _ _) ?_|dsimp only));first|done|(with_reducible rfl)|simp (disch:=omega) only[w64]|(show False;done))
  ·
   by_cases h6:1≤rd u i∧rd u i < m
   ·
    have hgc:=Gcd_ (a:=rd u i) (b:=m) (by omega) (by omega) (by omega) (by omega)
    ((with_reducible repeat (first|refine Zq (by first|assumption|omega|rfl|exact B_pos (by omega)) ?_|refine Zp (by first|assumption|omega|decide|exact B_not (by omega)) ?_|refine Zk (by first|assumption|exact In_ _ _ _) ?_|dsimp only));first|done|(with_reducible rfl)|simp (disch:=omega) only[w64]|(show False;done))
   ·
    ((with_reducible repeat (first|refine Zq (by first|assumption|omega|rfl|exact B_pos (by omega)) ?_|refine Zp (by first|assumption|omega|decide|exact B_not (by omega)) ?_|refine Zk (by first|assumption|exact In_ _ _ _) ?_|dsimp only));first|done|(with_reducible rfl)|simp (disch:=omega) only[w64]|(show False;done))
 (rw[Zaf.l0_eq])
 (with_reducible repeat (first|refine Zq (by first|assumption|omega|rfl|exact B_pos (by omega)) ?_|refine Zp (by first|assumption|omega|decide|exact B_not (by omega)) ?_|refine Zk (by first|assumption) ?_|dsimp only))
 refine scanT u.length (fun i=>Zaf.l1 i g m u) (fun i=>∀j:Int,0≤j→j < u.length→rd u (T g i j)=rd u i*rd u j%m) (fun i i0 i1 _ => ?_) (fun _=>by(rw[Zaf.l1_eq]);((with_reducible repeat (first|refine Zq (by first|assumption|omega|rfl|exact B_pos (by omega)) ?_|refine Zp (by first|assumption|omega|decide|exact B_not (by omega)) ?_|refine Zk (by first|assumption) ?_|dsimp only));first|done|(with_reducible rfl)|simp (disch:=omega) only[w64]|(show False;done)))
 have ri:=hg.row i i0 (by omega)
 have inner:=scanI u.length (fun j=>Zaf.l2 i j g m u) (fun j=>rd u (T g i j)=rd u i*rd u j%m) (some false) (Zaf.l1 (i+1) g m u) (fun j j0 j1 _=>by
  obtain⟨e0,e1⟩:=hg.ent i j i0 (by omega) j0 (by omega)
  obtain⟨p0,p1⟩:=Zc6 (show 0≤rd u i by have:=(hu i i0 i1).1;omega) (hu i i0 i1).2.1 (show 0≤rd u j by have:=(hu j j0 j1).1;omega) (hu j j0 j1).2.1 (by omega)
  have hwp:wrapI (rd u i*rd u j)=rd u i*rd u j:=w64 (by omega) (by omega)
  have e:=ZcD (m:=m) p0
  refine⟨fun h => ?_,fun h => ?_⟩ <;> (rw[Zaf.l2_eq,hwp,e]) <;> ((with_reducible repeat (first|refine Zq (by first|assumption|omega|rfl|exact B_pos (by omega)) ?_|refine Zp (by first|assumption|omega|decide|exact B_not (by omega)) ?_|refine Zk (by first|assumption) ?_|dsimp only));first|done|(with_reducible rfl)|simp (disch:=omega) only[w64]|(show False;done))) (fun _=>by(rw[Zaf.l2_eq]);((with_reducible repeat (first|refine Zq (by first|assumption|omega|rfl|exact B_pos (by omega)) ?_|refine Zp (by first|assumption|omega|decide|exact B_not (by omega)) ?_|refine Zk (by first|assumption) ?_|dsimp only));first|done|(with_reducible rfl)|simp (disch:=omega) only[w64]|(show False;done)))
 refine⟨fun h => ?_,fun h => ?_⟩ <;> (rw[Zaf.l1_eq]) <;> (with_reducible repeat (first|refine Zq (by first|assumption|omega|rfl|exact B_pos (by omega)) ?_|refine Zp (by first|assumption|omega|decide|exact B_not (by omega)) ?_|refine Zk (by first|assumption) ?_|dsimp only))
 ·
  exact inner.1 h
 ·
  exact inner.2 h
def GM (g:List (List Int)) (m:Int) (u:List Int):Prop:=Grp g∧Mdl g m u
theorem ZfF (g:List (List Int)) (hl:g.length≤maxLen) (hr:∀r∈g,r.length≤maxLen) (m:Int) (u:List Int) (hu:u.length≤maxLen):Zal.f g [(m,u)]=some (B (GM g m u)):=by
 have hG:=Zko g hl hr
 rw[Zal.f_eq]
 have st:Zal.l0 [(m,u)] (([(m,u)]:List (Int×List Int)).length:Int) 1 g=some true:=by(rw[Zal.l0_eq]);exact if_neg (by simp)
 (rw[Zal.l0_eq])
 rw[if_pos (by simp),if_pos (by simp),if_pos (by simp),hG]
 by_cases h1:Grp g
 ·
  have hM:=ZlA h1 m u hu
  rw[B_pos h1]
  show(Option.bind (ZW.f g m u) _)=_
  rw[hM]
  by_cases h2:Mdl g m u
  ·
   rw[B_pos h2,B_pos ⟨h1,h2⟩]
   simpa [show wrapI 1=1 from w64 (by omega) (by omega)] using st
  ·
   rw[B_neg h2,B_neg fun h=>h2 h.2]
   rfl
 ·
  rw[B_neg h1,B_neg fun h=>h1 h.1]
  rfl
theorem Zch (g:List (List Int)) (hl:g.length≤maxLen) (hr:∀r∈g,r.length≤maxLen) (m:Int) (u:List Int) (hu:u.length≤maxLen):Zau.f g [(m,u)]=some (ite_ (GM g m u) 0 1):=by
 rw[Zau.f_eq,ZfF g hl hr m u hu]
 by_cases h:GM g m u
 ·
  rw[B_pos h,ZbU h];rfl
 ·
  rw[B_neg h,ZbW h];rfl
end Go.Proofs.YthmcpmnhdbeahaaGreat.V
namespace Go.Proofs.YthmcpmnhdbeahaaGreat.V
open Go.RowKit Go.Proofs.YthmcpmnhdbeahaaGreat.D Go.Proofs.YthmcpmnhdbeahaaGreat.P
theorem Mod_ {a m:Int} (h0 : -1000000000≤a) (h1:a≤1000000000) (m0:0 < m) (m1:m≤1000000):Za6.f a m=some (a%m):=by
 rw[Za6.f_eq]
 have t0:=Int.tmod_lt_of_pos a m0
 have t1 : -m < Int.tmod a m:=Int.lt_tmod_of_pos a m0
 have hq:=Int.mul_tdiv_add_tmod a m
 have h5:(m*a.tdiv m+a.tmod m)%m=a.tmod m%m:=by rw[Int.add_comm,Int.add_mul_emod_self_left]
 rw[hq]at h5
 rw[w64 (by omega) (by omega),Int.tmod_eq_emod_of_nonneg (show 0≤Int.tmod a m+m by omega),Int.add_emod_right,←h5]
 ((with_reducible repeat (first|refine Zq (by first|assumption|omega|rfl|exact B_pos (by omega)) ?_|refine Zp (by first|assumption|omega|decide|exact B_not (by omega)) ?_|refine Zk (by first|assumption) ?_|dsimp only));first|done|(with_reducible rfl)|simp (disch:=omega) only[w64]|(show False;done))
theorem ZmN:∀n:Nat,n≤7→∀i:Nat,i≤5→n ^ i≤16807:=by decide
theorem ZkO {a:Int} (h0:0≤a) (h1:a≤7) (i:Nat) (hi:i≤5):0≤a ^ i∧a ^ i≤16807:=by
 obtain⟨n,rfl⟩:=Int.eq_ofNat_of_zero_le h0
 have h:=ZmN n (by omega) i hi
 rw[←Int.natCast_pow]
 omega
def cells (g:List (List Int)) (d:Int):Int:=((g.length:Int) - 1) ^ d.toNat
theorem Zd2 {g:List (List Int)} (hg:Grp g) {d:Int} (h1:d≤5):0≤cells g d∧cells g d≤16807:=by
 have n8:=hg.n8;have n0:=hg.n1
 exact ZkO (by omega) (by omega) _ (by omega)
theorem power {a d:Int} (h0:0≤a) (h1:a≤7) (d0:0≤d) (d1:d≤4):Zbw.f a d=some (a ^ d.toNat):=by
 obtain⟨n,rfl⟩:=Int.eq_ofNat_of_zero_le d0
 have:=up n (fun j=>Zbw.l0 a (a ^ j) (n:Int) (j:Int)) (fun j hj=>by
  have hw:wrapI ((j:Int)+1)=((j+1:Nat):Int):=by rw[w64 (by omega) (by omega)];omega
  have b:=ZkO h0 h1 (j+1) (by omega)
  have hp:wrapI (a ^ j*a)=a ^ (j+1):=by rw[show a ^ j*a=a ^ (j+1)from(Int.pow_succ a j).symm];exact w64 (by omega) (by omega)
  rw[Zbw.l0_eq,hw,hp]
  ((with_reducible repeat (first|refine Zq (by first|assumption|omega|rfl|exact B_pos (by omega)) ?_|refine Zp (by first|assumption|omega|decide|exact B_not (by omega)) ?_|refine Zk (by first|assumption) ?_|dsimp only));first|done|(with_reducible rfl)|simp (disch:=omega) only[w64]|(show False;done)))
 simp only[Int.pow_zero,Int.natCast_zero]at this
 rw[Zbw.f_eq,this,Zbw.l0_eq,Int.toNat_natCast]
 ((with_reducible repeat (first|refine Zq (by first|assumption|omega|rfl|exact B_pos (by omega)) ?_|refine Zp (by first|assumption|omega|decide|exact B_not (by omega)) ?_|refine Zk (by first|assumption) ?_|dsimp only));first|done|(with_reducible rfl)|simp (disch:=omega) only[w64]|(show False;done))
theorem ZiV {g:List (List Int)} (hg:Grp g) {d:Int} (d0:0≤d) (d1:d≤4):ZbG.f g d=some (cells g d):=by
 have n8:=hg.n8;have n0:=hg.n1
 have hw:wrapI ((g.length:Int) - 1)=g.length - 1:=w64 (by omega) (by omega)
 have hp:=power (a:=(g.length:Int) - 1) (by omega) (by omega) d0 d1
 show _=some (((g.length:Int) - 1) ^ d.toNat)
 rw[ZbG.f_eq,Zan.f_eq,Option.bind_some,hw]
 ((with_reducible repeat (first|refine Zq (by first|assumption|omega|rfl|exact B_pos (by omega)) ?_|refine Zp (by first|assumption|omega|decide|exact B_not (by omega)) ?_|refine Zk (by first|assumption) ?_|dsimp only));first|done|(with_reducible rfl)|simp (disch:=omega) only[w64]|(show False;done))
def Co (g:List (List Int)) (m d:Int) (v:List Int):Prop:=(0≤d∧d≤3)∧(v.length:Int)=cells g d∧AllIn m v
theorem ZgX (d:Int):Zby.f d=some (B (0≤d∧d≤3)):=by
 rw[Zby.f_eq]
 by_cases h:d≥0
 ·
  rw[if_pos h,Zfu,Zcf (show d≤3↔(0≤d∧d≤3)from⟨fun h' => ⟨h,h'⟩,fun h' => h'.2⟩)]
 ·
  rw[if_neg h,B_neg (fun h' => h h'.1)]
theorem Zkm {g:List (List Int)} (hg:Grp g) (m:Int) (u:List Int) (d:Int) (v:List Int) (hv:v.length≤maxLen):Zbo.f g m u d v=some (B (Co g m d v)):=by
 rw[Zbo.f_eq]
 by_cases h1:0≤d∧d≤3
 rotate_left
 ·
  rw[B_neg fun h=>h1 h.1]
  ((with_reducible repeat (first|refine Zq (by first|assumption|omega|rfl|exact B_pos (by omega)) ?_|refine Zp (by first|assumption|omega|decide|exact B_not (by omega)) ?_|refine Zk (by first|assumption|exact ZgX _) ?_|dsimp only));first|done|(with_reducible rfl)|simp (disch:=omega) only[w64]|(show False;done))
 have hc:=ZiV hg h1.1 (by omega)
 have ha:=areIn m v hv
 by_cases h2:(v.length:Int)=cells g d
 rotate_left
 ·
  rw[B_neg fun h=>h2 h.2.1]
  ((with_reducible repeat (first|refine Zq (by first|assumption|omega|rfl|exact B_pos (by omega)) ?_|refine Zp (by first|assumption|omega|decide|exact B_not (by omega)) ?_|refine Zk (by first|assumption|exact ZgX _) ?_|dsimp only));first|done|(with_reducible rfl)|simp (disch:=omega) only[w64]|(show False;done))
 (with_reducible repeat (first|refine Zq (by first|assumption|omega|rfl|exact B_pos (by omega)) ?_|refine Zp (by first|assumption|omega|decide|exact B_not (by omega)) ?_|refine Zk (by first|assumption|exact ZgX _) ?_|dsimp only))
 rw[Zcf (show AllIn m v↔Co g m d v from⟨fun h=>⟨h1,h2,h⟩,fun h=>h.2.2⟩)]
 simp
def idx (g:List (List Int)) (xs:List Int):Int:=xs.foldl (fun a x=>a*((g.length:Int) - 1)+x - 1) 0
theorem ZgW (g:List (List Int)) (xs:List Int) (x:Int):idx g (xs++[x])=idx g xs*((g.length:Int) - 1)+x - 1:=by simp[idx]
theorem Zi7 {g:List (List Int)} {xs:List Int} {i:Nat} (h:i < xs.length):idx g (xs.take (i+1))=idx g (xs.take i)*((g.length:Int) - 1)+rd xs (i:Int) - 1:=by
 rw[ZcR h,ZgW]
theorem Zmb {g:List (List Int)} (hg:Grp g) {xs:List Int} (hx:AllIn g.length xs):∀i:Nat,i≤xs.length→(∀j:Int,0≤j→j < i→¬ rd xs j=0)→0≤idx g (xs.take i)∧idx g (xs.take i)+1≤((g.length:Int) - 1) ^ i:=by
 have n8:=hg.n8;have n1:=hg.n1
 intro i
 induction i with
 | zero=>intro _ _;simp[idx]
 | succ i ih =>
  intro hi hz
  obtain⟨a0,a1⟩:=ih (by omega) (fun j h0 h1=>hz j h0 (by omega))
  obtain⟨x0,x1⟩:=hx i (by omega) (by omega)
  have x2:=hz i (by omega) (by omega)
  rw[Zi7 (by omega),Int.pow_succ]
  have b1:0≤idx g (xs.take i)*((g.length:Int) - 1):=Int.mul_nonneg a0 (by omega)
  have b2:(idx g (xs.take i)+1)*((g.length:Int) - 1)≤((g.length:Int) - 1) ^ i*((g.length:Int) - 1):=Int.mul_le_mul_of_nonneg_right a1 (by omega)
  rw[Int.add_mul,Int.one_mul]at b2
  omega
def ZcM (xs:List Int):Prop:=∀j:Int,0≤j→j < xs.length→¬ rd xs j=0
noncomputable def At (g:List (List Int)) (v xs:List Int):Int:=ite_ (ZcM xs) (rd v (idx g xs)) 0
theorem Zlv {g:List (List Int)} (hg:Grp g) {xs:List Int} (hx:AllIn g.length xs) (hl:xs.length≤4) {n:Nat} (hn:n < xs.length) (hz:∀j:Int,0≤j→j < (n:Int)→¬ rd xs j=0) :
  wrapI (wrapI (wrapI (idx g (xs.take n)*wrapI ((g.length:Int) - 1))+rd xs n) - 1)=idx g (xs.take (n+1))∧wrapI ((n:Int)+1)=(n:Int)+1:=by
 have n8:=hg.n8;have n1:=hg.n1
 obtain⟨a0,a1⟩:=Zmb hg hx n (by omega) hz
 obtain⟨x0,x1⟩:=hx n (by omega) (by omega)
 have p:=ZkO (a:=(g.length:Int) - 1) (by omega) (by omega) n (by omega)
 have b1:0≤idx g (xs.take n)*((g.length:Int) - 1):=Int.mul_nonneg a0 (by omega)
 have b2:idx g (xs.take n)*((g.length:Int) - 1)≤16807*7:=Int.mul_le_mul (by omega) (by omega) (by omega) (by omega)
 rw[w64 (x:=(g.length:Int) - 1) (by omega) (by omega),w64 (x:=idx g (xs.take n)*((g.length:Int) - 1)) (by omega) (by omega),w64 (x:=idx g (xs.take n)*((g.length:Int) - 1)+rd xs n) (by omega) (by omega),w64 (by omega) (by omega),w64 (by omega) (by omega),Zi7 hn]
 exact⟨rfl,rfl⟩
theorem cell_ {g:List (List Int)} (hg:Grp g) {xs:List Int} (hx:AllIn g.length xs) (hl:xs.length≤4) :
  ZbB.f g xs=some (ite_ (ZcM xs) (idx g xs) (-1)):=by
 rw[ZbB.f_eq]
 have:=scan xs.length (fun i=>ZbB.l0 (idx g (xs.take i.toNat)) xs (xs.length:Int) i g) (fun j=>¬ rd xs j=0) (some (-1)) (fun i i0 i1 hz=>by
  obtain⟨n,rfl⟩:=Int.eq_ofNat_of_zero_le i0
  obtain⟨e1,e2⟩:=Zlv hg hx hl (n:=n) (by omega) hz
  refine⟨fun h => ?_,fun h => ?_⟩
  ·
   rw[ZbB.l0_eq,Zan.f_eq,Option.bind_some,Int.toNat_natCast,e1,e2,show((n:Int)+1).toNat=n+1 by omega]
   ((with_reducible repeat (first|refine Zq (by first|assumption|omega|rfl|exact B_pos (by omega)) ?_|refine Zp (by first|assumption|omega|decide|exact B_not (by omega)) ?_|refine Zk (by first|assumption) ?_|dsimp only));first|done|(with_reducible rfl)|simp (disch:=omega) only[w64]|(show False;done))
  ·
   (rw[ZbB.l0_eq])
   ((with_reducible repeat (first|refine Zq (by first|assumption|omega|rfl|exact B_pos (by omega)) ?_|refine Zp (by first|assumption|omega|decide|exact B_not (by omega)) ?_|refine Zk (by first|assumption) ?_|dsimp only));first|done|(with_reducible rfl)|simp (disch:=omega) only[w64]|(show False;done)))
 simp only[Int.toNat_zero,List.take_zero,Int.toNat_natCast,List.take_length]at this
 rcases this with ⟨h1,h2⟩|⟨j,j0,j1,_,h1,_,h2⟩
 ·
  have h1:ZcM xs:=h1
  rw[ZbU h1,←show ZbB.l0 (idx g []) xs (xs.length:Int) 0 g=ZbB.l0 0 xs (xs.length:Int) 0 g from rfl,h2]
  (rw[ZbB.l0_eq])
  ((with_reducible repeat (first|refine Zq (by first|assumption|omega|rfl|exact B_pos (by omega)) ?_|refine Zp (by first|assumption|omega|decide|exact B_not (by omega)) ?_|refine Zk (by first|assumption) ?_|dsimp only));first|done|(with_reducible rfl)|simp (disch:=omega) only[w64]|(show False;done))
 ·
  rw[ZbW fun q=>h1 (q j j0 j1)]
  exact h2
theorem ZfT {g:List (List Int)} (hg:Grp g) {m d:Int} {v:List Int} (hc:Co g m d v) {xs:List Int} (hx:AllIn g.length xs) (hl:(xs.length:Int)=d) (h:ZcM xs):0≤idx g xs∧idx g xs < v.length:=by
 obtain⟨⟨d0,d1⟩,hv,ha⟩:=hc
 obtain⟨a0,a1⟩:=Zmb hg hx xs.length (by omega) h
 rw[List.take_length]at a0 a1
 have e:cells g d=((g.length:Int) - 1) ^ xs.length:=by unfold cells;rw[show d.toNat=xs.length by omega]
 omega
theorem at_ {g:List (List Int)} (hg:Grp g) {m d:Int} {v:List Int} (hc:Co g m d v) {xs:List Int} (hx:AllIn g.length xs) (hl:(xs.length:Int)=d) :
  Za1.f d v g xs=some (At g v xs):=by
 have hd:=hc.1
 have h1:=cell_ hg hx (by omega)
 rw[Za1.f_eq]
 unfold At
 by_cases h:ZcM xs
 ·
  obtain⟨a0,a1⟩:=ZfT hg hc hx hl h
  rw[ZbU h]at h1 ⊢
  ((with_reducible repeat (first|refine Zq (by first|assumption|omega|rfl|exact B_pos (by omega)) ?_|refine Zp (by first|assumption|omega|decide|exact B_not (by omega)) ?_|refine Zk (by first|assumption) ?_|dsimp only));first|done|(with_reducible rfl)|simp (disch:=omega) only[w64]|(show False;done))
 ·
  rw[ZbW h]at h1 ⊢
  ((with_reducible repeat (first|refine Zq (by first|assumption|omega|rfl|exact B_pos (by omega)) ?_|refine Zp (by first|assumption|omega|decide|exact B_not (by omega)) ?_|refine Zk (by first|assumption) ?_|dsimp only));first|done|(with_reducible rfl)|simp (disch:=omega) only[w64]|(show False;done))
theorem At_bd {g:List (List Int)} (hg:Grp g) {m d:Int} {v:List Int} (m0:0 < m) (hc:Co g m d v) {xs:List Int} (hx:AllIn g.length xs) (hl:(xs.length:Int)=d):0≤At g v xs∧At g v xs < m:=by
 unfold At
 by_cases h:ZcM xs
 ·
  obtain⟨a0,a1⟩:=ZfT hg hc hx hl h
  rw[ZbU h]
  exact hc.2.2 _ a0 a1
 ·
  rw[ZbW h];omega
end Go.Proofs.YthmcpmnhdbeahaaGreat.V
namespace Go.Proofs.YthmcpmnhdbeahaaGreat.V
open Go.RowKit Go.Proofs.YthmcpmnhdbeahaaGreat.D Go.Proofs.YthmcpmnhdbeahaaGreat.P
def lst (b:Int):Nat→Int→List Int
 | 0,_=>[]
 | n+1,i=>lst b n (i / b)++[i%b+1]
theorem Ze4 (b:Int):∀n i,(lst b n i).length=n:=by
 intro n
 induction n with
 | zero=>intro i;rfl
 | succ n ih=>intro i;simp[lst,ih]
theorem Znc {b:Int} (hb:0 < b):∀n i,∀x∈lst b n i,1≤x∧x < b+1:=by
 intro n
 induction n with
 | zero=>intro i x hx;simp[lst]at hx
 | succ n ih =>
  intro i x hx
  have m0:=Int.emod_nonneg i (show b≠0 by omega)
  have m1:=Int.emod_lt_of_pos i hb
  rcases List.mem_append.1 hx with h|h
  ·
   exact ih _ x h
  ·
   rw[List.mem_singleton]at h;omega
theorem ZlS (n:Nat) (t:List Int) (x:Int):(List.replicate (n+1) 0++t).set n x=List.replicate n 0++(x :: t):=by
 rw[List.replicate_succ', List.append_assoc,List.set_append,if_neg (by simp)]
 simp
theorem Znb {g:List (List Int)} (hg:Grp g) (n:Nat) (h2:n=0∨2≤g.length) (hn:n≤4) {i:Int} (i0:0≤i) (i1:i≤16807) :
  Zbf.f g (n:Int) i=some (lst ((g.length:Int) - 1) n i)∧True:=by
 have n8:=hg.n8;have n1:=hg.n1
 obtain⟨b,hb⟩:∃b:Int,b=(g.length:Int) - 1:=⟨_,rfl⟩
 have hw0:wrapI ((g.length:Int) - 1)=b:=by rw[hb];exact w64 (by omega) (by omega)
 rw[←hb]
 have b1:n=0∨1≤b:=by omega
 have b7:b≤7:=by omega
 have fact:∀(n:Nat) (i:Int),n≤4→1≤b→0≤i→i≤16807→wrapI (Int.tdiv i b)=i / b∧wrapI (1+Int.tmod i b)=i%b+1∧wrapI (Int.tmod i b+1)=i%b+1∧wrapI ((n:Int) - 1)=(n:Int) - 1∧0≤i / b∧i / b≤16807:=by
  intro n i hn b1 i0 i1
  have m0:=Int.emod_nonneg i (show b≠0 by omega)
  have m1:=Int.emod_lt_of_pos i (show 0 < b by omega)
  have d0:0≤i / b:=Int.ediv_nonneg i0 (by omega)
  have d1:i / b≤i:=Int.ediv_le_self _ i0
  rw[Zhm i0,ZcD i0]
  exact⟨w64 (by omega) (by omega),by rw[w64 (by omega) (by omega)];omega,w64 (by omega) (by omega),w64 (by omega) (by omega),d0,by omega⟩
 have hwn:wrapI ((n:Int) - 1)=(n:Int) - 1:=w64 (by omega) (by omega)
 constructor
 ·
  rw[Zbf.f_eq,Zan.f_eq,Option.bind_some,hw0,hwn,Int.toNat_natCast]
  (with_reducible repeat (first|refine Zq (by first|assumption|omega|rfl|exact B_pos (by omega)) ?_|refine Zp (by first|assumption|omega|decide|exact B_not (by omega)) ?_|refine Zk (by first|assumption) ?_|dsimp only))
  suffices H:∀(n:Nat) (i:Int) (t:List Int),n≤4→(n=0∨1≤b)→0≤i→i≤16807→Zbf.l0 i b ((n:Int) - 1) (List.replicate n 0++t)=some (lst b n i++t)by
   simpa using H n i [] hn b1 i0 i1
  intro n
  induction n with
  | zero=>intro i t _ _ _ _;rw[Zbf.l0_eq];(with_reducible repeat (first|refine Zq (by first|assumption|omega|rfl|exact B_pos (by omega)) ?_|refine Zp (by first|assumption|omega|decide|exact B_not (by omega)) ?_|refine Zk (by first|assumption) ?_|dsimp only));rfl
  | succ n ih =>
   intro i t hn b1 i0 i1
   obtain⟨f1,f2,f3,f5,f6,f7⟩:=fact n i (by omega) (by omega) i0 i1
   have h:=ih (i / b) ((i%b+1) :: t) (by omega) (by omega) f6 f7
   have e:((n+1:Nat):Int) - 1=(n:Int):=by omega
   have l1:(List.replicate (n+1) (0:Int)++t).length=n+1+t.length:=by rw[List.length_append,List.length_replicate]
   rw[e,Zbf.l0_eq,f1,f2,f5,Int.toNat_natCast,ZlS]
   (with_reducible repeat (first|refine Zq (by first|assumption|omega|rfl|exact B_pos (by omega)) ?_|refine Zp (by first|assumption|omega|decide|exact B_not (by omega)) ?_|refine Zk (by first|assumption) ?_|dsimp only))
   rw[h,lst,List.append_assoc,List.singleton_append]
 ·
  trivial
theorem cells_two {g:List (List Int)} (hg:Grp g) {n:Nat} (hc:0 < cells g n):n=0∨2≤g.length:=by
 have n1:=hg.n1
 by_cases h:n=0
 ·
  exact .inl h
 by_cases h2:2≤g.length
 ·
  exact .inr h2
 ·
  have:(g.length:Int) - 1=0:=by omega
  have e:cells g (n:Int)=0:=by unfold cells;rw[this,Int.toNat_natCast];exact Int.zero_pow h
  omega
theorem Zj0 {g:List (List Int)} (hg:Grp g) {n i:Nat} (hn:n≤4) (hi:(i:Int) < cells g n):Zbf.f g (n:Int) i=some (lst ((g.length:Int) - 1) n i)∧True:=by
 have hb:=Zd2 hg (d:=(n:Int)) (by omega)
 exact Znb hg n (cells_two hg (by omega)) hn (by omega) (by omega)
theorem Zku {g:List (List Int)} (hg:Grp g) {n i:Nat} (hi:(i:Int) < cells g n):AllIn g.length (lst ((g.length:Int) - 1) n i)∧ZcM (lst ((g.length:Int) - 1) n i):=by
 have n1:=hg.n1
 have H:∀x∈lst ((g.length:Int) - 1) n i,1≤x∧x < g.length:=by
  rcases cells_two hg (show 0 < cells g n by omega)with h|g2
  ·
   subst h;intro x hx;simp[lst]at hx
  ·
   intro x hx
   have:=Znc (b:=(g.length:Int) - 1) (by omega) n i x hx
   omega
 exact⟨Zb8 fun x hx=>by have:=H x hx;omega,fun j j0 j1 h=>by have:=H _ (ZcC j0 j1);omega⟩
theorem mapped {F:Int→Option Int} {G:Int→Int} (xs:List Int) (hl:xs.length≤1048576) (hF:∀x∈xs,F x=some (G x)):Zbj.f xs F=some (xs.map G):=by
 rw[Zbj.f_eq]
 have:=up xs.length (fun j=>Zbj.l0 F xs (xs.length:Int) (j:Int) ((xs.take j).map G)) (fun j h=>by
  have hw:wrapI ((j:Int)+1)=((j+1:Nat):Int):=by rw[w64 (by omega) (by omega)];omega
  have l1:((xs.take j).map G).length=j:=by rw[List.length_map,List.length_take];omega
  have l2:∀x:Int,([x]:List Int).length=1:=fun _=>rfl
  have hf:=hF _ (ZcC (show(0:Int)≤j by omega) (show(j:Int) < xs.length by omega))
  rw[ZcR h,List.map_append,List.map_singleton,Zbj.l0_eq,hw,hf,Option.bind_some,l1,l2]
  ((with_reducible repeat (first|refine Zq (by first|assumption|omega|rfl|exact B_pos (by omega)) ?_|refine Zp (by first|assumption|omega|decide|exact B_not (by omega)) ?_|refine Zk (by first|assumption) ?_|dsimp only));first|done|(with_reducible rfl)|simp (disch:=omega) only[w64]|(show False;done)))
 simp only[Int.natCast_zero,List.take_zero,List.map_nil,List.take_length]at this
 rw[this,Zbj.l0_eq]
 ((with_reducible repeat (first|refine Zq (by first|assumption|omega|rfl|exact B_pos (by omega)) ?_|refine Zp (by first|assumption|omega|decide|exact B_not (by omega)) ?_|refine Zk (by first|assumption) ?_|dsimp only));first|done|(with_reducible rfl)|simp (disch:=omega) only[w64]|(show False;done))
theorem Zjo (G:Nat→Int) (n i:Nat) (h:i < n):((List.range i).map G++List.replicate (n - i) 0).set i (G i)=(List.range (i+1)).map G++List.replicate (n - (i+1)) 0:=by
 rw[List.set_append,if_neg (by simp),List.length_map,List.length_range,Nat.sub_self,show n - i=(n - (i+1))+1 by omega,List.replicate_succ,List.set_cons_zero,List.range_succ,List.map_append]
 simp
theorem ZjZ (G:Nat→Int) (n i:Nat) (h:i≤n):((List.range i).map G++List.replicate (n - i) 0).length=n:=by rw[List.length_append,List.length_map,List.length_range,List.length_replicate];omega
theorem ZmJ {a m:Int} (m0:0 < m) (m1:m≤1000000):Int.tmod (wrapI (Int.tmod a m+m)) m=a%m:=by
 have t0:=Int.tmod_lt_of_pos a m0
 have t1 : -m < Int.tmod a m:=Int.lt_tmod_of_pos a m0
 have hq:=Int.mul_tdiv_add_tmod a m
 have h5:(m*a.tdiv m+a.tmod m)%m=a.tmod m%m:=by rw[Int.add_comm,Int.add_mul_emod_self_left]
 rw[hq]at h5
 rw[w64 (by omega) (by omega),Int.tmod_eq_emod_of_nonneg (show 0≤Int.tmod a m+m by omega),Int.add_emod_right,←h5]
theorem zero_ {g:List (List Int)} (hg:Grp g) {n:Nat} (hn:n≤4):ZbO.f g (n:Int)=some ((n:Int),List.replicate (cells g n).toNat 0):=by
 have hb:=Zd2 hg (d:=(n:Int)) (by omega)
 have hc:=ZiV hg (d:=(n:Int)) (by omega) (by omega)
 rw[ZbO.f_eq]
 ((with_reducible repeat (first|refine Zq (by first|assumption|omega|rfl|exact B_pos (by omega)) ?_|refine Zp (by first|assumption|omega|decide|exact B_not (by omega)) ?_|refine Zk (by first|assumption) ?_|dsimp only));first|done|(with_reducible rfl)|simp (disch:=omega) only[w64]|(show False;done))
theorem told {g:List (List Int)} (hg:Grp g) {m:Int} (m2:2≤m) (m12:m≤12) {n:Nat} (hn:n≤4) {F:List Int→Option Int} {G:Nat→Int} (hF:∀i:Nat,(i:Int) < cells g n→F (lst ((g.length:Int) - 1) n i)=some (G i)) :
  ZbI.f g m (n:Int) F=some ((n:Int),(List.range (cells g n).toNat).map fun i=>G i%m):=by
 have hb:=Zd2 hg (d:=(n:Int)) (by omega)
 have hz:=zero_ hg hn
 obtain⟨N,hN⟩:∃N,N=(cells g n).toNat:=⟨_,rfl⟩
 rw[ZbI.f_eq,hz,Option.bind_some,←hN]
 have:=up N (fun j=>ZbI.l0 m (n:Int) F (N:Int) (j:Int) g 0 (n:Int) ((List.range j).map (fun i=>G i%m)++List.replicate (N - j) 0)) (fun j h=>by
  have hw:wrapI ((j:Int)+1)=((j+1:Nat):Int):=by rw[w64 (by omega) (by omega)];omega
  have f:=hF j (by omega)
  have hl:=(Zj0 hg hn (i:=j) (by omega)).1
  have l1:=ZjZ (fun i=>G i%m) N j (by omega)
  have e:=ZmJ (a:=G j) (m:=m) (by omega) (by omega)
  rw[←Zjo (fun i=>G i%m) N j h,ZbI.l0_eq,hw,hl,Option.bind_some,f,Option.bind_some,e,Int.toNat_natCast]
  ((with_reducible repeat (first|refine Zq (by first|assumption|omega|rfl|exact B_pos (by omega)) ?_|refine Zp (by first|assumption|omega|decide|exact B_not (by omega)) ?_|refine Zk (by first|assumption) ?_|dsimp only));first|done|(with_reducible rfl)|simp (disch:=omega) only[w64]|(show False;done)))
 simp only[Int.natCast_zero,List.range_zero,List.map_nil,List.nil_append,Nat.sub_zero,Nat.sub_self,List.replicate_zero,List.append_nil]at this
 simp only[List.length_replicate]
 rw[this,ZbI.l0_eq]
 ((with_reducible repeat (first|refine Zq (by first|assumption|omega|rfl|exact B_pos (by omega)) ?_|refine Zp (by first|assumption|omega|decide|exact B_not (by omega)) ?_|refine Zk (by first|assumption) ?_|dsimp only));first|done|(with_reducible rfl)|simp (disch:=omega) only[w64]|(show False;done))
theorem counting {n:Nat} (hn:n≤1048576):ZaU.f (n:Int)=some ((List.range n).map fun i:Nat=>(i:Int)):=by
 rw[ZaU.f_eq]
 have:=up n (fun j=>ZaU.l0 (n:Int) (j:Int) ((List.range j).map fun i:Nat=>(i:Int))) (fun j hj=>by
  have l1:((List.range j).map fun i:Nat=>(i:Int)).length=j:=by rw[List.length_map,List.length_range]
  have l2:∀x:Int,([x]:List Int).length=1:=fun _=>rfl
  rw[List.range_succ,List.map_append,List.map_singleton,ZaU.l0_eq,l1,l2,wn (j:=j) (by omega)]
  ((with_reducible repeat (first|refine Zq (by first|assumption|omega|rfl|exact B_pos (by omega)) ?_|refine Zp (by first|assumption|omega|decide|exact B_not (by omega)) ?_|refine Zk (by first|assumption) ?_|dsimp only));first|done|(with_reducible rfl)|simp (disch:=omega) only[w64]|(show False;done)))
 simp only[Int.natCast_zero,List.range_zero,List.map_nil]at this
 rw[this,ZaU.l0_eq]
 ((with_reducible repeat (first|refine Zq (by first|assumption|omega|rfl|exact B_pos (by omega)) ?_|refine Zp (by first|assumption|omega|decide|exact B_not (by omega)) ?_|refine Zk (by first|assumption) ?_|dsimp only));first|done|(with_reducible rfl)|simp (disch:=omega) only[w64]|(show False;done))
end Go.Proofs.YthmcpmnhdbeahaaGreat.V
namespace Go.Proofs.YthmcpmnhdbeahaaGreat.V
open Go.RowKit Go.Proofs.YthmcpmnhdbeahaaGreat.D Go.Proofs.YthmcpmnhdbeahaaGreat.P
def join2 (g:List (List Int)) (xs:List Int) (j:Nat):List Int:=(xs.take j++[T g (rd xs j) (rd xs (j+1:Nat))])++xs.drop (j+2)
noncomputable def bsum (g:List (List Int)) (u v xs:List Int):Nat→Int×Int
 | 0=>(rd u (rd xs 0)*At g v (xs.drop 1),-1)
 | j+1=>((bsum g u v xs j).1+(bsum g u v xs j).2*At g v (join2 g xs j),0 - (bsum g u v xs j).2)
noncomputable def Bd (g:List (List Int)) (u v xs:List Int) (d:Nat):Int:=(bsum g u v xs d).1+(bsum g u v xs d).2*At g v (xs.take d)
theorem ZgY {g:List (List Int)} (hg:Grp g) {xs:List Int} (hx:AllIn g.length xs) {j:Nat} (hj:j+1 < xs.length):AllIn g.length (join2 g xs j)∧(join2 g xs j).length+1=xs.length:=by
 obtain⟨a0,a1⟩:=hx j (by omega) (by omega)
 obtain⟨b0,b1⟩:=hx (j+1:Nat) (by omega) (by omega)
 obtain⟨t0,t1⟩:=hg.ent _ _ a0 a1 b0 b1
 refine⟨AllIn.append (AllIn.append (hx.take j) (ZfD t0 t1)) (hx.drop _),?_⟩
 simp only[join2,List.length_append,List.length_take,List.length_drop,List.length_singleton]
 omega
theorem Zmt {g:List (List Int)} (hg:Grp g) {m:Int} {u v xs:List Int} {d:Nat} (hm:Mdl g m u) (hc:Co g m d v) (hx:AllIn g.length xs) (hl:xs.length=d+1) :
  ∀j,j≤d→(-1000000 - 12*(j:Int)≤(bsum g u v xs j).1∧(bsum g u v xs j).1≤1000000+12*(j:Int))∧((bsum g u v xs j).2=1∨(bsum g u v xs j).2 = -1):=by
 have m2:=hm.m2;have m12:=hm.m12
 obtain⟨x0,x1⟩:=hx 0 (by omega) (by omega)
 intro j
 induction j with
 | zero =>
  intro _
  have ha:=At_bd hg (by omega) hc (hx.drop 1) (by rw[List.length_drop,hl];simp)
  obtain⟨c0,c1⟩:=ZcK hm x0 x1 ha.1 ha.2
  rw[show bsum g u v xs 0=(rd u (rd xs 0)*At g v (xs.drop 1),-1)from rfl]
  exact⟨⟨by dsimp only;omega,by dsimp only;omega⟩,.inr rfl⟩
 | succ j ih =>
  intro hj
  obtain⟨⟨h1,h2⟩,h3⟩:=ih (by omega)
  obtain⟨k1,k2⟩:=ZgY hg hx (j:=j) (by omega)
  have ha:=At_bd hg (by omega) hc k1 (by omega)
  simp only[bsum]
  rcases h3 with h3|h3 <;> rw[h3] <;> refine⟨⟨by omega,by omega⟩,?_⟩
  ·
   exact .inr rfl
  ·
   exact .inl rfl
theorem Zl7 {g:List (List Int)} (hg:Grp g) {m:Int} {u v xs ys:List Int} {d:Nat} (hm:Mdl g m u) (hc:Co g m d v) (hx:AllIn g.length xs) (hl:xs.length=d+1) {j:Nat} (hj:j≤d) (hy:AllIn g.length ys) (hyl:ys.length=d) :
  wrapI ((bsum g u v xs j).1+wrapI ((bsum g u v xs j).2*At g v ys))=(bsum g u v xs j).1+(bsum g u v xs j).2*At g v ys∧wrapI (0 - (bsum g u v xs j).2)=0 - (bsum g u v xs j).2 ∧ -2000000≤(bsum g u v xs j).1+(bsum g u v xs j).2*At g v ys∧(bsum g u v xs j).1+(bsum g u v xs j).2*At g v ys≤2000000:=by
 have m2:=hm.m2;have m12:=hm.m12;have d3:=hc.1.2
 obtain⟨⟨s1,s2⟩,s3⟩:=Zmt hg hm hc hx hl j hj
 have hb:=At_bd hg (by omega) hc hy (by omega)
 have p1 : -100≤(bsum g u v xs j).2*At g v ys∧(bsum g u v xs j).2*At g v ys≤100:=by rcases s3 with s3|s3 <;> rw[s3] <;> omega
 rw[w64 (x:=(bsum g u v xs j).2*At g v ys) (by omega) (by omega)]
 exact⟨w64 (by omega) (by omega),w64 (by omega) (by omega),by omega,by omega⟩
theorem Zm7 {g:List (List Int)} (hg:Grp g) {m:Int} {u v xs:List Int} {d:Nat} (hm:Mdl g m u) (hc:Co g m d v) (hx:AllIn g.length xs) (hl:xs.length=d+1) :
  wrapI (rd u (rd xs 0)*At g v (xs.drop 1))=rd u (rd xs 0)*At g v (xs.drop 1):=by
 have m2:=hm.m2;have m12:=hm.m12
 obtain⟨x0,x1⟩:=hx 0 (by omega) (by omega)
 have ha:=At_bd hg (by omega) hc (hx.drop 1) (by rw[List.length_drop,hl];simp)
 obtain⟨c0,c1⟩:=ZcK hm x0 x1 ha.1 ha.2
 exact w64 (by omega) (by omega)
theorem Own_ (xs:List Int) (hl:xs.length≤1048576):ZaJ.f xs=some xs:=by
 rw[ZaJ.f_eq,List.nil_append,show([]:List Int).length=0 from rfl]
 ((with_reducible repeat (first|refine Zq (by first|assumption|omega|rfl|exact B_pos (by omega)) ?_|refine Zp (by first|assumption|omega|decide|exact B_not (by omega)) ?_|refine Zk (by first|assumption) ?_|dsimp only));first|done|(with_reducible rfl)|simp (disch:=omega) only[w64]|(show False;done))
theorem w2n {j:Nat} (h:j < 4611686018427387904):wrapI ((j:Int)+2)=((j+2:Nat):Int):=by rw[w64 (by omega) (by omega)];omega
theorem Zjn {g:List (List Int)} (hg:Grp g) {m:Int} {u v xs:List Int} {d:Nat} (hm:Mdl g m u) (hc:Co g m d v) (hx:AllIn g.length xs) (hl:xs.length=d+1) :
  Zav.f g m u d v xs=some (Bd g u v xs d):=by
 have hlu:=hm.len;have n8:=hg.n8;have d3:=hc.1.2
 obtain⟨x0,x1⟩:=hx 0 (by omega) (by omega)
 have h0:=at_ hg hc (hx.drop 1) (by rw[List.length_drop,hl];simp)
 have hat:=at_ hg hc (hx.take d) (by rw[List.length_take,hl];omega)
 have loop:=up d (fun i=>Zav.l0 xs (d:Int) (bsum g u v xs i).1 (bsum g u v xs i).2 (d:Int) (i:Int) g d v) (fun j hj=>by
  obtain⟨a0,a1⟩:=hx j (by omega) (by omega)
  obtain⟨b0,b1⟩:=hx (j+1:Nat) (by omega) (by omega)
  obtain⟨k1,k2⟩:=ZgY hg hx (j:=j) (by omega)
  have hv:Za1.f d v g (xs.take j++[T g (rd xs j) (rd xs (j+1:Nat))]++xs.drop (j+2))=some (At g v (join2 g xs j)):=show Za1.f d v g (join2 g xs j)=_ from at_ hg hc k1 (by omega)
  have ht:=times2 hg a0 a1 b0 b1
  obtain⟨w3,w4,_,_⟩:=Zl7 hg hm hc hx hl (j:=j) (by omega) k1 (by omega)
  have z1:(xs.take j).length=j:=by rw[List.length_take];omega
  have z0:([]:List Int).length=0:=rfl
  have z2:∀y:Int,([y]:List Int).length=1:=fun _=>rfl
  have z3:(xs.drop (j+2)).length=xs.length - (j+2):=List.length_drop
  rw[Zav.l0_eq,wn (j:=j) (by omega),w2n (j:=j) (by omega),Int.toNat_natCast,Int.toNat_natCast,z0,List.nil_append,z1,ht,Option.bind_some,z2]
  rw[List.length_append,z1,z2,z3,hv,Option.bind_some,w3,w4]
  (with_reducible repeat (first|refine Zq (by first|assumption|omega|rfl|exact B_pos (by omega)) ?_|refine Zp (by first|assumption|omega|decide|exact B_not (by omega)) ?_|refine Zk (by first|assumption) ?_|dsimp only))
  rfl)
 have wl:wrapI ((xs.length:Int) - 1)=(d:Int):=by rw[w64 (by omega) (by omega)];omega
 obtain⟨w3,_,_,_⟩:=Zl7 hg hm hc hx hl (j:=d) (by omega) (hx.take d) (by rw[List.length_take];omega)
 have e1:xs.drop (1:Int).toNat=xs.drop 1:=rfl
 rw[Zav.f_eq,e1,h0,Option.bind_some,wl,Zm7 hg hm hc hx hl]
 (with_reducible repeat (first|refine Zq (by first|assumption|omega|rfl|exact B_pos (by omega)) ?_|refine Zp (by first|assumption|omega|decide|exact B_not (by omega)) ?_|refine Zk (by first|assumption) ?_|dsimp only))
 refine loop.trans ?_
 rw[Zav.l0_eq,Int.toNat_natCast,hat,Option.bind_some,w3]
 (with_reducible repeat (first|refine Zq (by first|assumption|omega|rfl|exact B_pos (by omega)) ?_|refine Zp (by first|assumption|omega|decide|exact B_not (by omega)) ?_|refine Zk (by first|assumption) ?_|dsimp only))
 rfl
noncomputable def bdV (g:List (List Int)) (u v:List Int) (d i:Nat):Int:=Bd g u v (lst ((g.length:Int) - 1) (d+1) (i:Int)) d
noncomputable def bdL (g:List (List Int)) (m:Int) (u v:List Int) (d:Nat):List Int:=(List.range (cells g ((d+1:Nat):Int)).toNat).map fun i=>bdV g u v d i%m
theorem Zhu {g:List (List Int)} (hg:Grp g) {m:Int} {u v:List Int} {d:Nat} (hm:Mdl g m u) (hc:Co g m d v):Zbh.f g m u d v=some (((d+1:Nat):Int),bdL g m u v d):=by
 have d3:=hc.1.2
 have hT:=told hg hm.m2 hm.m12 (n:=d+1) (by omega) (F:=fun z0=>(Za8.f z0 g m u d v).map fun z=>z) (G:=bdV g u v d) (fun i hi=>by
  obtain⟨hx,_⟩:=Zku hg (n:=d+1) (i:=i) hi
  have hll:=Ze4 ((g.length:Int) - 1) (d+1) i
  have e:Za8.f (lst ((g.length:Int) - 1) (d+1) i) g m u d v=some (bdV g u v d i):=by
   rw[Za8.f_eq,Zjn hg hm hc hx hll];rfl
  show Option.map _ (Za8.f _ g m u d v)=_
  rw[e];rfl)
 rw[Zbh.f_eq,wn (j:=d) (by omega),hT]
 rfl
def Cocy (g:List (List Int)) (m:Int) (u v:List Int) (d:Nat):Prop:=∀i:Int,0≤i→i < (cells g ((d+1:Nat):Int)).toNat→bdV g u v d i.toNat%m=0
theorem Zkn {g:List (List Int)} (hg:Grp g) {m:Int} {u v:List Int} {d:Nat} (hm:Mdl g m u) (hc:Co g m d v):ZaK.f g m u d v=some (B (Cocy g m u v d)):=by
 have d3:=hc.1.2
 have hb:=Zd2 hg (d:=((d+1:Nat):Int)) (by omega)
 have hl:(bdL g m u v d).length=(cells g ((d+1:Nat):Int)).toNat:=by rw[bdL,List.length_map,List.length_range]
 rw[ZaK.f_eq,Zhu hg hm hc,Option.bind_some,hl]
 refine scanT _ (fun i=>ZaK.l0 ((cells g ((d+1:Nat):Int)).toNat:Int) i (bdL g m u v d)) (fun i=>bdV g u v d i.toNat%m=0) (fun i i0 i1 _ => ?_) (fun _=>by(rw[ZaK.l0_eq]);((with_reducible repeat (first|refine Zq (by first|assumption|omega|rfl|exact B_pos (by omega)) ?_|refine Zp (by first|assumption|omega|decide|exact B_not (by omega)) ?_|refine Zk (by first|assumption) ?_|dsimp only));first|done|(with_reducible rfl)|simp (disch:=omega) only[w64]|(show False;done)))
 obtain⟨n,rfl⟩:=Int.eq_ofNat_of_zero_le i0
 have e:rd (bdL g m u v d) (n:Int)=bdV g u v d n%m:=by
  rw[rd_get (by omega)];simp[bdL]
 rw[Int.toNat_natCast]
 refine⟨fun h => ?_,fun h => ?_⟩ <;> rw[ZaK.l0_eq,e] <;> ((with_reducible repeat (first|refine Zq (by first|assumption|omega|rfl|exact B_pos (by omega)) ?_|refine Zp (by first|assumption|omega|decide|exact B_not (by omega)) ?_|refine Zk (by first|assumption) ?_|dsimp only));first|done|(with_reducible rfl)|simp (disch:=omega) only[w64]|(show False;done))
end Go.Proofs.YthmcpmnhdbeahaaGreat.V
namespace Go.Proofs.YthmcpmnhdbeahaaGreat.V
open Go.RowKit Go.Proofs.YthmcpmnhdbeahaaGreat.D
abbrev Vc:=Nat→Int
inductive Sp (m:Int) (W:Nat) (G:Vc→Prop):Vc→Prop
 | nil:Sp m W G (fun _=>0)
 | add {x g:Vc} (c:Int):Sp m W G x→G g→Sp m W G (fun i=>x i+c*g i)
 | alike {x y:Vc}:Sp m W G x→(∀i,i < W→m∣x i - y i)→Sp m W G y
section
variable {m:Int} {W:Nat} {G G' : Vc→Prop} {x y:Vc}
theorem Zca {m a b:Int} (h:a=b):m∣a - b:=⟨0,by omega⟩
theorem Sp.plus (hx:Sp m W G x) (hy:Sp m W G y):Sp m W G (fun i=>x i+y i):=by
 induction hy with
 | nil=>exact .alike hx fun i _=>Zca (by dsimp only;omega)
 | add c _ hg ih=>exact .alike (.add c ih hg) fun i _=>Zca (by dsimp only;omega)
 | alike _ h ih =>
  refine .alike ih fun i hi => ?_
  have:=h i hi
  rwa[show ∀a b c:Int,a+b - (a+c)=b - c from fun a b c=>by omega]
theorem Sp.mul (c:Int) (hx:Sp m W G x):Sp m W G (fun i=>c*x i):=by
 induction hx with
 | nil=>exact .alike .nil fun i _=>Zca (by simp)
 | add d _ hg ih=>exact .alike (.add (c*d) ih hg) fun i _=>Zca (by rw[Int.mul_add,Int.mul_assoc])
 | alike _ h ih =>
  refine .alike ih fun i hi => ?_
  rw[←Int.mul_sub]
  exact Int.dvd_mul_of_dvd_right (h i hi)
theorem Sp.gen {g:Vc} (h:G g):Sp m W G g := .alike (.add 1 .nil h) fun i _=>Zca (by omega)
theorem Sp.mono (h:∀g,G g→Sp m W G' g) (hx:Sp m W G x):Sp m W G' x:=by
 induction hx with
 | nil=>exact .nil
 | add c _ hg ih=>exact ih.plus ((h _ hg).mul c)
 | alike _ h' ih=>exact .alike ih h'
theorem Sp.two {a b:Int} (hx:Sp m W G x) (hy:Sp m W G y) {z:Vc} (h:∀i,i < W→m∣a*x i+b*y i - z i):Sp m W G z := .alike ((hx.mul a).plus (hy.mul b)) h
theorem Sp.dvd {d:Int} (hd:d∣m) {i:Nat} (hi:i < W) (h:∀g,G g→d∣g i) (hx:Sp m W G x):d∣x i:=by
 induction hx with
 | nil=>exact Int.dvd_zero d
 | add c _ hg ih=>exact Int.dvd_add ih (Int.dvd_mul_of_dvd_right (h _ hg))
 | alike _ h' ih =>
  have:=Int.dvd_sub ih (Int.dvd_trans hd (h' i hi))
  rwa[show ∀a b:Int,a - (a - b)=b from fun a b=>by omega]at this
structure Sub (m:Int) (W:Nat) (M:Vc→Prop):Prop where
 zero:M fun _=>0
 lin:∀x y,M x→M y→∀c,M fun i=>x i+c*y i
 alike:∀x y,M x→(∀i,i < W→m∣x i - y i)→M y
theorem Sp.sub:Sub m W (Sp m W G):=⟨.nil,fun _ _ hx hy c=>hx.plus (hy.mul c),fun _ _ hx h => .alike hx h⟩
theorem Sub.all {M:Vc→Prop} (hM:Sub m W M) (h:∀g,G g→M g) (hx:Sp m W G x):M x:=by
 induction hx with
 | nil=>exact hM.zero
 | add c _ hg ih=>exact hM.lin _ _ ih (h _ hg) c
 | alike _ h' ih=>exact hM.alike _ _ ih h'
end
def V (x:List Int):Vc:=fun i=>rd x (i:Int)
structure PRow (m:Int) (W j:Nat) (r:List Int):Prop where
 len:r.length=W
 ent:AllIn m r
 zero:∀i:Nat,i < j→rd r (i:Int)=0
 pos:0 < rd r (j:Int)
 lt:rd r (j:Int) < m
 dvd:rd r (j:Int)∣m
structure PTab (m:Int) (W:Nat) (p:List (List Int)):Prop where
 len:p.length=W
 rws:∀j:Nat,j < W→row p (j:Int)=[]∨PRow m W j (row p (j:Int))
def Rws (W:Nat) (p:List (List Int)) (k:Nat):Vc→Prop:=fun g=>∃j:Nat,k≤j∧j < W∧row p (j:Int)≠[]∧g=V (row p (j:Int))
def GT (W:Nat) (p st:List (List Int)) (k:Nat):Vc→Prop:=fun g=>Rws W p k g∨∃s∈st,(∀i:Nat,i < k→rd s (i:Int)=0)∧g=V s
def How (m:Int) (W:Nat) (p:List (List Int)) (G:Nat→Vc→Prop):Prop:=∀j:Nat,j < W→row p (j:Int)≠[]→Sp m W (G (j+1)) (fun i=>m / rd (row p (j:Int)) (j:Int)*rd (row p (j:Int)) (i:Int))
structure Inv (m:Int) (W:Nat) (p st:List (List Int)):Prop where
 tab:PTab m W p
 sts:∀s∈st,s.length=W∧AllIn m s
 how:How m W p (GT W p st)
def dv (m:Int) (p:List (List Int)) (j:Nat):Int:=if row p (j:Int)=[]then m else rd (row p (j:Int)) (j:Int)
structure Lead (m:Int) (W:Nat) (p:List (List Int)) (M:Vc→Prop):Prop where
 tab:PTab m W p
 sub:Sub m W M
 own:∀j:Nat,j < W→row p (j:Int)≠[]→M (V (row p (j:Int)))
 lead:∀x,M x→∀j:Nat,j < W→(∀i:Nat,i < j→m∣x i)→dv m p j∣x j
section
variable {m:Int} {W:Nat} {p:List (List Int)}
theorem PTab.prow (h:PTab m W p) {j:Nat} (hj:j < W) (hr:row p (j:Int)≠[]):PRow m W j (row p (j:Int)):=(h.rws j hj).resolve_left hr
theorem Rws.zero (h:PTab m W p) {k j:Nat} {g:Vc} (hg:Rws W p k g) (hj:j < k):g j=0:=by
 obtain⟨i,h1,h2,h3,rfl⟩:=hg
 exact(h.prow h2 h3).zero j (by omega)
theorem Rws.part {k:Nat} (hk:k < W) (hr:row p (k:Int)≠[]) {x:Vc} (hx:Sp m W (Rws W p k) x):∃(c:Int) (w:Vc),Sp m W (Rws W p (k+1)) w∧∀i,i < W→m∣c*V (row p (k:Int)) i+w i - x i:=by
 induction hx with
 | nil=>exact⟨0,_,.nil,fun i _=>Zca (by simp)⟩
 | add d _ hg ih =>
  obtain⟨c,w,h1,h2⟩:=ih
  obtain⟨j,j1,j2,j3,rfl⟩:=hg
  by_cases e:j=k
  ·
   subst e
   refine⟨c+d,w,h1,fun i hi => ?_⟩
   have:=h2 i hi
   rw[Int.add_mul]
   rwa[show ∀a b c d:Int,a+b+c - (d+b)=a+c - d from fun a b c d=>by omega]
  ·
   refine⟨c,_,.add d h1 ⟨j,by omega,j2,j3,rfl⟩,fun i hi => ?_⟩
   have:=h2 i hi
   dsimp only
   rwa[show ∀a b c d:Int,a+(b+c) - (d+c)=a+b - d from fun a b c d=>by omega]
 | alike _ h ih =>
  obtain⟨c,w,h1,h2⟩:=ih
  refine⟨c,w,h1,fun i hi => ?_⟩
  have:=Int.dvd_add (h2 i hi) (h i hi)
  rwa[show ∀a b c:Int,a - b+(b - c)=a - c from fun a b c=>by omega]at this
theorem Rws.next {k:Nat} (hr:row p (k:Int)=[]) {x:Vc} (hx:Sp m W (Rws W p k) x):Sp m W (Rws W p (k+1)) x:=hx.mono fun g ⟨j,j1,j2,j3,e⟩ => .gen ⟨j,by
 rcases Nat.lt_or_eq_of_le j1 with h|rfl
 ·
  exact h
 ·
  exact absurd hr j3,j2,j3,e⟩
theorem Rws.down (m0:0 < m) (ht:PTab m W p) (hh:How m W p (Rws W p)) {x:Vc} (hx:Sp m W (Rws W p 0) x) {j:Nat} (hj:j≤W) (hz:∀i:Nat,i < j→m∣x i):∀k,k≤j→Sp m W (Rws W p k) x:=by
 intro k
 induction k with
 | zero=>exact fun _=>hx
 | succ k ih =>
  intro hk
  have h:=ih (by omega)
  by_cases hr:row p (k:Int)=[]
  ·
   exact Rws.next hr h
  have hp:=ht.prow (by omega) hr
  obtain⟨c,w,h1,h2⟩:=Rws.part (by omega) hr h
  have hw:m∣w k:=h1.dvd (Int.dvd_refl m) (by omega) fun g hg=>by rw[Rws.zero ht hg (by omega)];exact Int.dvd_zero m
  have hc:m∣c*rd (row p (k:Int)) (k:Int):=by
   have:=Int.dvd_add (h2 k (by omega)) (hz k (by omega))
   rw[show ∀a b c:Int,a+b - c+c=a+b from fun a b c=>by omega]at this
   have:=Int.dvd_sub this hw
   rwa[show ∀a b:Int,a+b - b=a from fun a b=>by omega]at this
  obtain⟨q,hq⟩:=hp.dvd
  have hd:=hp.pos
  have hmd:m / rd (row p (k:Int)) (k:Int)=q:=by rw[hq];exact Int.mul_ediv_cancel_left _ (by omega)
  obtain⟨t,ht'⟩:q∣c:=by
   obtain⟨t,ht'⟩:=hc
   refine⟨t,Int.eq_of_mul_eq_mul_left (show rd (row p (k:Int)) (k:Int)≠0 by omega) ?_⟩
   rw[Int.mul_comm,ht', hq,Int.mul_assoc]
  have hH:=hh k (by omega) hr
  rw[hmd]at hH
  refine .alike ((hH.mul t).plus h1) fun i hi => ?_
  have:=h2 i hi
  rwa[show t*(q*rd (row p (k:Int)) (i:Int))=c*V (row p (k:Int)) i by rw[ht', ←Int.mul_assoc,Int.mul_comm t q];rfl]
theorem ZmF (m0:0 < m) (ht:PTab m W p) (hh:How m W p (Rws W p)) {M:Vc→Prop} (hM:∀x,Sp m W (Rws W p 0) x↔M x):Lead m W p M where
 tab:=ht
 sub:=by rw[show M=Sp m W (Rws W p 0)from funext fun x=>propext (hM x).symm];exact Sp.sub
 own:=fun j hj hr=>(hM _).1 (.gen ⟨j,Nat.zero_le _,hj,hr,rfl⟩)
 lead:=fun x hx j hj hz=>by
  have h:=Rws.down m0 ht hh ((hM x).2 hx) (Nat.le_of_lt hj) hz j (Nat.le_refl _)
  unfold dv
  by_cases hr:row p (j:Int)=[]
  ·
   rw[if_pos hr]
   exact(Rws.next hr h).dvd (Int.dvd_refl m) hj fun g hg=>by rw[Rws.zero ht hg (by omega)];exact Int.dvd_zero m
  ·
   rw[if_neg hr]
   have hp:=ht.prow hj hr
   refine h.dvd hp.dvd hj fun g hg => ?_
   obtain⟨i,i1,i2,i3,rfl⟩:=hg
   by_cases e:i=j
   ·
    subst e;exact Int.dvd_refl _
   ·
    have:V (row p (i:Int)) j=0:=(ht.prow i2 i3).zero j (by omega)
    rw[this];exact Int.dvd_zero _
theorem dv_bd (m0:0 < m) (ht:PTab m W p) {j:Nat} (hj:j < W):0 < dv m p j∧dv m p j≤m∧dv m p j∣m:=by
 unfold dv
 by_cases hr:row p (j:Int)=[]
 ·
  rw[if_pos hr];exact⟨m0,Int.le_refl _,Int.dvd_refl _⟩
 ·
  rw[if_neg hr]
  have hp:=ht.prow hj hr
  exact⟨hp.pos,by have:=hp.lt;omega,hp.dvd⟩
theorem Zkd {a b:Int} (ha:0 < a) (hb:0 < b) (h:a∣b):a≤b:=Int.le_of_dvd hb h
theorem Zmy (m0:0 < m) {p' : List (List Int)} {M:Vc→Prop} (h:Lead m W p M) (h' : Lead m W p' M) {j:Nat} (hj:j < W):dv m p j=dv m p' j:=by
 have key:∀{p p' : List (List Int)},Lead m W p M→Lead m W p' M→dv m p j∣dv m p' j:=fun {p p'} h h' => by
  by_cases hr:row p' (j:Int)=[]
  ·
   rw[show dv m p' j=m from if_pos hr];exact(dv_bd m0 h.tab hj).2.2
  ·
   rw[show dv m p' j=rd (row p' (j:Int)) (j:Int)from if_neg hr]
   have hp:=h'.tab.prow hj hr
   exact h.lead _ (h'.own j hj hr) j hj fun i hi=>by rw[show V (row p' (j:Int)) i=0 from hp.zero i hi];exact Int.dvd_zero m
 have a:=Zkd (dv_bd m0 h.tab hj).1 (dv_bd m0 h'.tab hj).1 (key h h')
 have b:=Zkd (dv_bd m0 h'.tab hj).1 (dv_bd m0 h.tab hj).1 (key h' h)
 omega
structure Least (m:Int) (W:Nat) (p:List (List Int)) (M:Vc→Prop) (x y:List Int):Prop where
 len:y.length=W
 ent:AllIn m y
 dif:M fun i=>rd x (i:Int) - rd y (i:Int)
 lt:∀j:Nat,j < W→rd y (j:Int) < dv m p j
theorem Least.same (m0:0 < m) {p' : List (List Int)} {M:Vc→Prop} (h:Lead m W p M) (h' : Lead m W p' M) {x y y' : List Int} (hy:Least m W p M x y) (hy' : Least m W p' M x y'):y=y' := by
 have hd:M fun i=>rd y (i:Int) - rd y' (i:Int):=by
  refine h.sub.alike _ _ (h.sub.lin _ _ hy'.dif hy.dif (-1)) fun i _=>Zca ?_
  omega
 have hall:∀n,n≤W→∀i:Nat,i < n→rd y (i:Int)=rd y' (i:Int):=by
  intro n
  induction n with
  | zero=>intro _ i hi;omega
  | succ n ih =>
   intro hn i hi
   have ih:=ih (by omega)
   by_cases e:i=n
   ·
    subst e
    have hl:=h.lead _ hd i (by omega) fun k hk=>by rw[ih k hk];exact⟨0,by omega⟩
    have a1:=hy.lt i (by omega)
    have a2:=hy'.lt i (by omega)
    rw[←Zmy m0 h h' (show i < W by omega)]at a2
    obtain⟨b1,_⟩:=hy.ent i (by omega) (by rw[hy.len];omega)
    obtain⟨b2,_⟩:=hy'.ent i (by omega) (by rw[hy'.len];omega)
    have hd0:=(dv_bd m0 h.tab (show i < W by omega)).1
    obtain⟨q,hq⟩:=hl
    have q0:q=0:=by
     rcases Int.lt_trichotomy q 0 with h|h|h
     ·
      have:=Int.mul_le_mul_of_nonneg_left (show q ≤ -1 by omega) (Int.le_of_lt hd0)
      omega
     ·
      exact h
     ·
      have:=Int.mul_le_mul_of_nonneg_left (show 1≤q by omega) (Int.le_of_lt hd0)
      omega
    rw[q0]at hq
    omega
   ·
    exact ih i (by omega)
 refine ZfN (by rw[hy.len,hy'.len]) fun i i0 i1 => ?_
 obtain⟨n,rfl⟩:=Int.eq_ofNat_of_zero_le i0
 exact hall W (Nat.le_refl _) n (by have:=hy.len;omega)
end
end Go.Proofs.YthmcpmnhdbeahaaGreat.V
namespace Go.Proofs.YthmcpmnhdbeahaaGreat.V
open Go.RowKit Go.Proofs.YthmcpmnhdbeahaaGreat.D Go.Proofs.YthmcpmnhdbeahaaGreat.P
theorem ModW {a m:Int} (h0 : -4000000000000000000≤a) (h1:a≤4000000000000000000) (m0:0 < m) (m1:m≤1000000):Za6.f a m=some (a%m):=by
 rw[Za6.f_eq]
 have t0:=Int.tmod_lt_of_pos a m0
 have t1 : -m < Int.tmod a m:=Int.lt_tmod_of_pos a m0
 have hq:=Int.mul_tdiv_add_tmod a m
 have h5:(m*a.tdiv m+a.tmod m)%m=a.tmod m%m:=by rw[Int.add_comm,Int.add_mul_emod_self_left]
 rw[hq]at h5
 rw[w64 (by omega) (by omega),Int.tmod_eq_emod_of_nonneg (show 0≤Int.tmod a m+m by omega),Int.add_emod_right,←h5]
 ((with_reducible repeat (first|refine Zq (by first|assumption|omega|rfl|exact B_pos (by omega)) ?_|refine Zp (by first|assumption|omega|decide|exact B_not (by omega)) ?_|refine Zk (by first|assumption) ?_|dsimp only));first|done|(with_reducible rfl)|simp (disch:=omega) only[w64]|(show False;done))
def mix (m x:Int) (a:List Int) (y:Int) (b:List Int):List Int:=(List.range a.length).map fun(i:Nat)=>(x*rd a (i:Int)+y*rd b (i:Int))%m
theorem Zcx (m x:Int) (a:List Int) (y:Int) (b:List Int):(mix m x a y b).length=a.length:=by simp[mix]
theorem ZdR {m x:Int} {a:List Int} {y:Int} {b:List Int} {i:Nat} (h:i < a.length):rd (mix m x a y b) (i:Int)=(x*rd a (i:Int)+y*rd b (i:Int))%m:=by
 rw[rd_get (by rw[Zcx];exact h)]
 simp[mix]
theorem Zgv {m x:Int} {a:List Int} {y:Int} {b:List Int} (m0:0 < m):AllIn m (mix m x a y b):=by
 refine Zb8 fun z hz => ?_
 obtain⟨i,_,rfl⟩:=List.mem_map.1 hz
 exact⟨Int.emod_nonneg _ (by omega),Int.emod_lt_of_pos _ m0⟩
theorem Ze5 {m x:Int} {a:List Int} {y:Int} {b:List Int} {i:Nat} (h:i < a.length):m∣x*rd a (i:Int)+y*rd b (i:Int) - rd (mix m x a y b) (i:Int):=by
 rw[ZdR h]
 exact Int.dvd_self_sub_emod
theorem Zkx {x a B m:Int} (x0 : -B≤x) (x1:x≤B) (a0:0≤a) (a1:a < m) (m1:m≤12) (B0:0≤B) : -(12*B)≤x*a∧x*a≤12*B:=by
 have h1:x*a≤B*a:=Int.mul_le_mul_of_nonneg_right x1 a0
 have h2:(-B)*a≤x*a:=Int.mul_le_mul_of_nonneg_right x0 a0
 have h3:B*a≤B*12:=Int.mul_le_mul_of_nonneg_left (by omega) B0
 rw[Int.neg_mul]at h2
 constructor <;> omega
theorem ZlT {xs ys:List Int} {j:Nat} (hl:ys.length=xs.length) (hj:j < xs.length) {z:Int} (hz:z=rd ys (j:Int)):(ys.take j++xs.drop j).set j z=ys.take (j+1)++xs.drop (j+1):=by
 subst hz
 rw[rd_get (by omega)]
 apply List.ext_getElem
 ·
  simp;omega
 ·
  intro i h1 h2
  rw[List.getElem_set]
  by_cases e:j=i
  ·
   subst e
   rw[if_pos rfl,List.getElem_append_left (by simp;omega)]
   simp
  ·
   rw[if_neg e]
   by_cases e2:i < j
   ·
    rw[List.getElem_append_left (by simp;omega),List.getElem_append_left (by simp;omega)]
    simp
   ·
    have:(List.take j ys).length=j:=by simp;omega
    have:(List.take (j+1) ys).length=j+1:=by simp;omega
    rw[List.getElem_append_right (by omega),List.getElem_append_right (by omega)]
    simp only[List.getElem_drop]
    congr 1
    omega
theorem combined {m:Int} (m2:2≤m) (m12:m≤12) {p:List (List Int)} {x y:Int} {a b:List Int} (ha:AllIn m a) (hb:AllIn m b) (hl:b.length=a.length) (hW:a.length≤1000000) (x0 : -100000000000000≤x) (x1:x≤100000000000000) (y0 : -100000000000000≤y) (y1:y≤100000000000000) :
  ZG.f m p x a y b=some (mix m x a y b):=by
 have hz:(List.replicate a.length (0:Int)).length=a.length:=List.length_replicate
 have hml:=Zcx m x a y b
 have loop:=up a.length (fun j=>ZG.l0 x y b a (a.length:Int) (j:Int) m p ((mix m x a y b).take j++(List.replicate a.length (0:Int)).drop j)) (fun j hj=>by
  obtain⟨a0,a1⟩:=ha j (by omega) (by omega)
  obtain⟨b0,b1⟩:=hb j (by omega) (by omega)
  have p1:=Zkx x0 x1 a0 a1 m12 (by omega)
  have p2:=Zkx y0 y1 b0 b1 m12 (by omega)
  have t0:=Int.tmod_lt_of_pos (x*rd a (j:Int)+y*rd b (j:Int)) (show 0 < m by omega)
  have t1 : -m < Int.tmod (x*rd a (j:Int)+y*rd b (j:Int)) m:=Int.lt_tmod_of_pos _ (by omega)
  have hq:=Int.mul_tdiv_add_tmod (x*rd a (j:Int)+y*rd b (j:Int)) m
  have h5:(m*(x*rd a (j:Int)+y*rd b (j:Int)).tdiv m+(x*rd a (j:Int)+y*rd b (j:Int)).tmod m)%m=(x*rd a (j:Int)+y*rd b (j:Int)).tmod m%m:=by rw[Int.add_comm,Int.add_mul_emod_self_left]
  rw[hq]at h5
  have hv:(wrapI ((wrapI (wrapI (x*rd a (j:Int))+wrapI (y*rd b (j:Int)))).tmod m+m)).tmod m=rd (mix m x a y b) (j:Int):=by
   rw[w64 (x:=x*rd a (j:Int)) (by omega) (by omega),w64 (x:=y*rd b (j:Int)) (by omega) (by omega),w64 (x:=x*rd a (j:Int)+y*rd b (j:Int)) (by omega) (by omega),w64 (by omega) (by omega),ZdR hj,Int.tmod_eq_emod_of_nonneg (by omega),Int.add_emod_right,←h5]
  have hs:=ZlT (xs:=List.replicate a.length (0:Int)) (ys:=mix m x a y b) (by omega) (by omega) (j:=j) hv
  have hll:(((mix m x a y b).take j++(List.replicate a.length (0:Int)).drop j).length:Int)=a.length:=by simp;omega
  rw[ZG.l0_eq,wn (j:=j) (by omega),Int.toNat_natCast,hs,hll]
  ((with_reducible repeat (first|refine Zq (by first|assumption|omega|rfl|exact B_pos (by omega)) ?_|refine Zp (by first|assumption|omega|decide|exact B_not (by omega)) ?_|refine Zk (by first|assumption) ?_|dsimp only));first|done|(with_reducible rfl)|simp (disch:=omega) only[w64]|(show False;done)))
 rw[ZG.f_eq,Int.toNat_natCast]
 rw[List.take_zero,List.nil_append,List.drop_zero,Int.natCast_zero]at loop
 rw[loop,ZG.l0_eq,show(mix m x a y b).take a.length=mix m x a y b from List.take_of_length_le (by omega),List.drop_of_length_le (by simp),List.append_nil]
 ((with_reducible repeat (first|refine Zq (by first|assumption|omega|rfl|exact B_pos (by omega)) ?_|refine Zp (by first|assumption|omega|decide|exact B_not (by omega)) ?_|refine Zk (by first|assumption) ?_|dsimp only));first|done|(with_reducible rfl)|simp (disch:=omega) only[w64]|(show False;done))
end Go.Proofs.YthmcpmnhdbeahaaGreat.V
namespace Go.Proofs.YthmcpmnhdbeahaaGreat.V
open Go.RowKit Go.Proofs.YthmcpmnhdbeahaaGreat.D Go.Proofs.YthmcpmnhdbeahaaGreat.P
theorem bez (a b:Nat):∃s t:Int,s*a+t*b=((Nat.gcd a b:Nat):Int):=by
 induction a,b using Nat.gcd.induction with
 | H0 n=>exact⟨0,1,by simp⟩
 | H1 a b ha ih =>
  obtain⟨s,t,h⟩:=ih
  refine⟨t - s*((b / a:Nat):Int),s,?_⟩
  rw[Nat.gcd_rec a b,←h]
  have h1:(b:Int)=(a:Int)*((b / a:Nat):Int)+((b%a:Nat):Int):=by exact_mod_cast (Nat.div_add_mod b a).symm
  rw[Int.sub_mul,Int.mul_assoc,Int.mul_comm ((b / a:Nat):Int) (a:Int)]
  have h2:s*(b:Int)=s*((a:Int)*((b / a:Nat):Int))+s*((b%a:Nat):Int):=by rw[←Int.mul_add,←h1]
  omega
theorem Zms {m a b:Int} (m0:0 < m) (a0:0≤a) (b0:0≤b):∃x y:Int,(0≤x∧x < m)∧(0≤y∧y < m)∧m∣x*a+y*b - ((Int.gcd ((Int.gcd a b:Nat):Int) m:Nat):Int):=by
 obtain⟨A,rfl⟩:=Int.eq_ofNat_of_zero_le a0
 obtain⟨C,rfl⟩:=Int.eq_ofNat_of_zero_le b0
 obtain⟨M,rfl⟩:=Int.eq_ofNat_of_zero_le (Int.le_of_lt m0)
 obtain⟨s,t,h1⟩:=bez A C
 obtain⟨s', t', h2⟩:=bez (Nat.gcd A C) M
 refine⟨(s' * s)%M,(s' * t)%M,⟨Int.emod_nonneg _ (by omega),Int.emod_lt_of_pos _ m0⟩,⟨Int.emod_nonneg _ (by omega),Int.emod_lt_of_pos _ m0⟩,?_⟩
 show(M:Int)∣(s' * s)%M*A+(s' * t)%M*C - ((Nat.gcd (Nat.gcd A C) M:Nat):Int)
 have e1:(s' * s)%(M:Int)=s' * s - M*(s' * s / M):=by have:=Int.mul_ediv_add_emod (s' * s) M;omega
 have e2:(s' * t)%(M:Int)=s' * t - M*(s' * t / M):=by have:=Int.mul_ediv_add_emod (s' * t) M;omega
 rw[e1,e2]
 refine⟨-(s' * s / M*A) - (s' * t / M*C) - t', ?_⟩
 have h3:s' * (s*(A:Int)+t*(C:Int))=s' * ((Nat.gcd A C:Nat):Int):=by rw[h1]
 rw[Int.mul_add,←Int.mul_assoc,←Int.mul_assoc]at h3
 rw[Int.sub_mul,Int.sub_mul,Int.mul_sub,Int.mul_sub,Int.mul_neg,Int.mul_assoc (M:Int),Int.mul_assoc (M:Int),Int.mul_comm (M:Int) t']
 omega
theorem ZeP {a m:Int}:Int.tmod a m=0↔m∣a:=⟨Int.dvd_of_tmod_eq_zero,Int.tmod_eq_zero_of_dvd⟩
theorem bezout {m:Int} (m2:2≤m) (m12:m≤12) {p:List (List Int)} {a b:Int} (a0:0≤a) (a1:a≤12) (b0:0≤b) (b1:b≤12) :
  ∃x y:Int,ZH.f m p a b=some (x,y,((Int.gcd ((Int.gcd a b:Nat):Int) m:Nat):Int))∧(0≤x∧x < m)∧(0≤y∧y < m)∧m∣x*a+y*b - ((Int.gcd ((Int.gcd a b:Nat):Int) m:Nat):Int):=by
 have hg1:=gcd_ a0 b0
 have hg2:=gcd_ (a:=((Int.gcd a b:Nat):Int)) (b:=m) (by omega) (by omega)
 have hd:0≤((Int.gcd ((Int.gcd a b:Nat):Int) m:Nat):Int)∧((Int.gcd ((Int.gcd a b:Nat):Int) m:Nat):Int)≤m:=by
  constructor
  ·
   omega
  ·
   exact Int.le_of_dvd (by omega) (Int.gcd_dvd_right ..)
 obtain⟨x0,y0,hx0,hy0,h0⟩:=Zms (m:=m) (by omega) a0 b0
 rw[ZH.f_eq,hg1,Option.bind_some,hg2,Option.bind_some]
 generalize ((Int.gcd ((Int.gcd a b:Nat):Int) m:Nat):Int)=d at hd h0 ⊢
 have inner:∀(n:Nat) (x y:Int),0≤x→x < m→0≤y→y+n=m→(∃y', (0≤y' ∧ y' < m)∧m∣x*a+y' * b - d∧ZH.l1 a b d x m x m y m p=some (x,y', d))∨((∀y', y≤y' → y' < m→¬ m∣x*a+y' * b - d)∧ZH.l1 a b d x m x m y m p=ZH.l0 a b d m (x+1) m p):=by
  intro n
  induction n with
  | zero =>
   intro x y hx hx' hy hn
   refine .inr ⟨fun y' h1 h2=>by omega,?_⟩
   rw[ZH.l1_eq,w64 (x:=x+1) (by omega) (by omega)]
   ((with_reducible repeat (first|refine Zq (by first|assumption|omega|rfl|exact B_pos (by omega)) ?_|refine Zp (by first|assumption|omega|decide|exact B_not (by omega)) ?_|refine Zk (by first|assumption) ?_|dsimp only));first|done|(with_reducible rfl)|simp (disch:=omega) only[w64]|(show False;done))
  | succ n ih =>
   intro x y hx hx' hy hn
   have p1:=Zkx (x:=x) (a:=a) (B:=12) (m:=13) (by omega) (by omega) a0 (by omega)
   have q1:0≤x*a:=Int.mul_nonneg hx a0
   have q2:x*a≤12*12:=Int.mul_le_mul (by omega) a1 a0 (by omega)
   have q3:0≤y*b:=Int.mul_nonneg hy b0
   have q4:y*b≤12*12:=Int.mul_le_mul (by omega) b1 b0 (by omega)
   have hv:wrapI (wrapI (wrapI (x*a)+wrapI (y*b)) - d)=x*a+y*b - d:=by
    rw[w64 (x:=x*a) (by omega) (by omega),w64 (x:=y*b) (by omega) (by omega),w64 (x:=x*a+y*b) (by omega) (by omega),w64 (by omega) (by omega)]
   by_cases h:m∣x*a+y*b - d
   ·
    refine .inl ⟨y,⟨hy,by omega⟩,h,?_⟩
    have ht:=ZeP.2 h
    rw[ZH.l1_eq,hv]
    ((with_reducible repeat (first|refine Zq (by first|assumption|omega|rfl|exact B_pos (by omega)) ?_|refine Zp (by first|assumption|omega|decide|exact B_not (by omega)) ?_|refine Zk (by first|assumption) ?_|dsimp only));first|done|(with_reducible rfl)|simp (disch:=omega) only[w64]|(show False;done))
   ·
    have ht:¬ Int.tmod (x*a+y*b - d) m=0:=fun k=>h (ZeP.1 k)
    have hl:ZH.l1 a b d x m x m y m p=ZH.l1 a b d x m x m (y+1) m p:=by
     rw[ZH.l1_eq,hv,w64 (x:=y+1) (by omega) (by omega)]
     ((with_reducible repeat (first|refine Zq (by first|assumption|omega|rfl|exact B_pos (by omega)) ?_|refine Zp (by first|assumption|omega|decide|exact B_not (by omega)) ?_|refine Zk (by first|assumption) ?_|dsimp only));first|done|(with_reducible rfl)|simp (disch:=omega) only[w64]|(show False;done))
    rcases ih x (y+1) hx hx' (by omega) (by omega)with ⟨y', h1,h2,h3⟩|⟨h1,h2⟩
    ·
     exact .inl ⟨y', h1,h2,hl.trans h3⟩
    ·
     refine .inr ⟨fun y' k1 k2 => ?_,hl.trans h2⟩
     by_cases e:y' = y
     ·
      rw[e];exact h
     ·
      exact h1 y' (by omega) k2
 have outer:∀(n:Nat) (x:Int),0≤x→x+n=m→x≤x0→∃x' y', ZH.l0 a b d m x m p=some (x', y', d)∧(0≤x' ∧ x' < m)∧(0≤y' ∧ y' < m)∧m∣x' * a+y' * b - d:=by
  intro n
  induction n with
  | zero=>intro x hx hn hx0';omega
  | succ n ih =>
   intro x hx hn hx0'
   have hl:ZH.l0 a b d m x m p=ZH.l1 a b d x m x m 0 m p:=by
    rw[ZH.l0_eq]
    ((with_reducible repeat (first|refine Zq (by first|assumption|omega|rfl|exact B_pos (by omega)) ?_|refine Zp (by first|assumption|omega|decide|exact B_not (by omega)) ?_|refine Zk (by first|assumption) ?_|dsimp only));first|done|(with_reducible rfl)|simp (disch:=omega) only[w64]|(show False;done))
   rw[hl]
   rcases inner m.toNat x 0 hx (by omega) (by omega) (by omega)with ⟨y', h1,h2,h3⟩|⟨h1,h2⟩
   ·
    exact⟨x,y', h3,⟨hx,by omega⟩,h1,h2⟩
   ·
    rw[h2]
    refine ih (x+1) (by omega) (by omega) ?_
    by_cases e:x=x0
    ·
     exact absurd (e ▸ h0) (h1 y0 hy0.1 hy0.2)
    ·
     omega
 exact outer m.toNat 0 (by omega) (by omega) hx0.1
end Go.Proofs.YthmcpmnhdbeahaaGreat.V
namespace Go.Proofs.YthmcpmnhdbeahaaGreat.V
open Go.RowKit Go.Proofs.YthmcpmnhdbeahaaGreat.D
theorem ZdX {p:List (List Int)} {j:Nat} {n:List Int} (h:j < p.length):row (p.set j n) (j:Int)=n:=by
 rw[ZdW (by rw[List.length_set];exact h)]
 simp
theorem ZcV {p:List (List Int)} {i j:Nat} {n:List Int} (h:i≠j):row (p.set j n) (i:Int)=row p (i:Int):=by
 simp only[row,Int.toNat_natCast,List.getD_eq_getElem?_getD,List.getElem?_set,if_neg (show ¬ j=i from fun e=>h e.symm)]
def Zb (k:Nat) (s:List Int):Prop:=∀i:Nat,i < k→rd s (i:Int)=0
section
variable {m:Int} {W:Nat} {p p' st st' : List (List Int)} {M:Vc→Prop}
theorem PTab.set (h:PTab m W p) {j:Nat} {n:List Int} (hj:j < W) (hn:PRow m W j n):PTab m W (p.set j n) where
 len:=by rw[List.length_set];exact h.len
 rws:=fun i hi=>by
  by_cases e:i=j
  ·
   subst e;rw[ZdX (by rw[h.len];exact hj)];exact .inr hn
  ·
   rw[ZcV e];exact h.rws i hi
theorem PRow.ne {j:Nat} {n:List Int} (h:PRow m W j n):n≠[]:=fun e=>by
 have:=h.pos
 rw[e]at this
 simp[rd]at this
def dsum (m:Int) (p:List (List Int)):Nat→Int
 | 0=>0
 | k+1=>dsum m p k+dv m p k
theorem Zik (hl:p.length=W) {j:Nat} {n:List Int} (hj:j < W) (hn:n≠[]):dv m (p.set j n) j=rd n (j:Int):=by
 unfold dv;rw[ZdX (by omega),if_neg hn]
theorem Zkc {i j:Nat} {n:List Int} (h:i≠j):dv m (p.set j n) i=dv m p i:=by
 unfold dv;rw[ZcV h]
theorem Zlr (hl:p.length=W) {j:Nat} {n:List Int} (hj:j < W):∀k,dsum m (p.set j n) k=dsum m p k+if j < k then dv m (p.set j n) j - dv m p j else 0:=by
 intro k
 induction k with
 | zero=>simp[dsum]
 | succ k ih =>
  rw[dsum,dsum,ih]
  by_cases e:j=k
  ·
   subst e
   rw[if_neg (Nat.lt_irrefl j),if_pos (Nat.lt_succ_self j)];omega
  ·
   rw[Zkc (fun q=>e q.symm)]
   by_cases h:j < k
   ·
    rw[if_pos h,if_pos (by omega)];omega
   ·
    rw[if_neg h,if_neg (by omega)];omega
theorem ZgV (m0:0 < m) (ht:PTab m W p):∀k,k≤W→0≤dsum m p k∧dsum m p k≤m*k:=by
 intro k
 induction k with
 | zero=>intro _;simp[dsum]
 | succ k ih =>
  intro hk
  obtain⟨a,b⟩:=ih (by omega)
  obtain⟨c,d,_⟩:=dv_bd m0 ht (show k < W by omega)
  rw[dsum,show m*((k+1:Nat):Int)=m*(k:Int)+m by rw[Int.natCast_add,Int.mul_add];simp]
  omega
structure Pst (m:Int) (W:Nat) (p st:List (List Int)) (M:Vc→Prop):Prop where
 inv:Inv m W p st
 spn:∀x,Sp m W (GT W p st 0) x↔M x
theorem Pst.step (h:Pst m W p st M) (ht:PTab m W p') (hs:∀s∈st', s.length=W∧AllIn m s)
  (ha:∀k g,GT W p st k g→Sp m W (GT W p' st' k) g) (hb:∀g,GT W p' st' 0 g→Sp m W (GT W p st 0) g)
  (hn:∀j:Nat,j < W→row p' (j:Int)≠[]→row p' (j:Int)≠row p (j:Int)→Sp m W (GT W p' st' (j+1)) (fun i=>m / rd (row p' (j:Int)) (j:Int)*rd (row p' (j:Int)) (i:Int))):Pst m W p' st' M where
 inv:=⟨ht,hs,fun j hj hr=>by
  by_cases e:row p' (j:Int)=row p (j:Int)
  ·
   have:=h.inv.how j hj (by rw[←e];exact hr)
   rw[e]
   exact this.mono (ha (j+1))
  ·
   exact hn j hj hr e⟩
 spn:=fun x=>by
  rw[←h.spn x]
  exact⟨fun hx=>hx.mono hb,fun hx=>hx.mono (ha 0)⟩
theorem GT.zb {k:Nat} {s:List Int} (hs:s∈st) (hz:Zb k s):GT W p st k (V s) := .inr ⟨s,hs,hz,rfl⟩
theorem Pst.drop {v:List Int} (h:Pst m W p (st++[v]) M) (hz:Zb W v):Pst m W p st M:=by
 refine h.step h.inv.tab (fun s hs=>h.inv.sts s (List.mem_append_left _ hs)) (fun k g hg => ?_) (fun g hg => .gen ?_) (fun j _ _ e=>absurd rfl e)
 ·
  rcases hg with hg|⟨s,hs,hk,rfl⟩
  ·
   exact .gen (.inl hg)
  ·
   rcases List.mem_append.1 hs with hs|hs
   ·
    exact .gen (.inr ⟨s,hs,hk,rfl⟩)
   ·
    rw[List.mem_singleton]at hs
    subst hs
    exact .alike .nil fun i hi=>by rw[show V s i=0 from hz i hi];exact⟨0,by omega⟩
 ·
  rcases hg with hg|⟨s,hs,hk,rfl⟩
  ·
   exact .inl hg
  ·
   exact .inr ⟨s,List.mem_append_left _ hs,hk,rfl⟩
theorem Pst.less {v w:List Int} {c:Int} (h:Pst m W p (st++[v]) M) {j:Nat} (hj:j < W) (hr:row p (j:Int)≠[]) (hvj:rd v (j:Int)≠0) (hw:w.length=W∧AllIn m w) (hz:Zb j w)
  (he:∀i:Nat,i < W→m∣1*rd v (i:Int)+(-c)*rd (row p (j:Int)) (i:Int) - rd w (i:Int)):Pst m W p (st++[w]) M:=by
 refine h.step h.inv.tab (fun s hs => ?_) (fun k g hg => ?_) (fun g hg => ?_) (fun j _ _ e=>absurd rfl e)
 ·
  rcases List.mem_append.1 hs with hs|hs
  ·
   exact h.inv.sts s (List.mem_append_left _ hs)
  ·
   rw[List.mem_singleton]at hs;subst hs;exact hw
 ·
  rcases hg with hg|⟨s,hs,hk,rfl⟩
  ·
   exact .gen (.inl hg)
  ·
   rcases List.mem_append.1 hs with hs|hs
   ·
    exact .gen (.inr ⟨s,List.mem_append_left _ hs,hk,rfl⟩)
   ·
    rw[List.mem_singleton]at hs
    subst hs
    have hkj:k≤j:=by
     by_cases q:k≤j
     ·
      exact q
     ·
      exact absurd (hk j (by omega)) hvj
    refine Sp.two (a:=1) (b:=c) (x:=V w) (y:=V (row p (j:Int))) (.gen (GT.zb (List.mem_append_right _ (List.mem_singleton.2 rfl)) fun i hi=>hz i (by omega))) (.gen (.inl ⟨j,hkj,hj,hr,rfl⟩)) fun i hi => ?_
    obtain⟨q,hq⟩:=he i hi
    refine⟨-q,?_⟩
    rw[Int.mul_neg,←hq,Int.neg_mul]
    show 1*rd w (i:Int)+c*rd (row p (j:Int)) (i:Int) - rd s (i:Int)=_
    omega
 ·
  rcases hg with hg|⟨s,hs,hk,rfl⟩
  ·
   exact .gen (.inl hg)
  ·
   rcases List.mem_append.1 hs with hs|hs
   ·
    exact .gen (.inr ⟨s,List.mem_append_left _ hs,hk,rfl⟩)
   ·
    rw[List.mem_singleton]at hs
    subst hs
    exact Sp.two (a:=1) (b := -c) (x:=V v) (y:=V (row p (j:Int))) (.gen (GT.zb (List.mem_append_right _ (List.mem_singleton.2 rfl)) fun i hi=>by omega)) (.gen (.inl ⟨j,Nat.zero_le _,hj,hr,rfl⟩)) fun i hi=>he i hi
theorem Pst.swap {v n:List Int} {ws:List (List Int)} (h:Pst m W p (st++[v]) M) {j:Nat} (hj:j < W) (hvj:rd v (j:Int)≠0) (hn:PRow m W j n) (hws:∀w∈ws,(w.length=W∧AllIn m w)∧Zb (j+1) w)
  (ho:row p (j:Int)≠[]→Sp m W (fun g=>g=V n∨∃w∈ws,g=V w) (V (row p (j:Int))))
  (hv:Sp m W (fun g=>g=V n∨∃w∈ws,g=V w) (V v))
  (hd:Sp m W (fun g=>∃w∈ws,g=V w) (fun i=>m / rd n (j:Int)*rd n (i:Int)))
  (hb:∀g,(g=V n∨∃w∈ws,g=V w)→Sp m W (fun g=>g=V v∨(row p (j:Int)≠[]∧g=V (row p (j:Int)))) g):Pst m W (p.set j n) (st++ws) M:=by
 have hpl:j < p.length:=by rw[h.inv.tab.len];exact hj
 have hsame:row (p.set j n) (j:Int)=n:=ZdX hpl
 have new:∀k,k≤j→∀g,(g=V n∨∃w∈ws,g=V w)→Sp m W (GT W (p.set j n) (st++ws) k) g:=fun k hk g hg=>by
  rcases hg with rfl|⟨w,hw,rfl⟩
  ·
   exact .gen (.inl ⟨j,hk,hj,by rw[hsame];exact hn.ne,by rw[hsame]⟩)
  ·
   exact .gen (GT.zb (List.mem_append_right _ hw) fun i hi=>(hws w hw).2 i (by omega))
 have old:∀g,(g=V v∨(row p (j:Int)≠[]∧g=V (row p (j:Int))))→Sp m W (GT W p (st++[v]) 0) g:=fun g hg=>by
  rcases hg with rfl|⟨hr,rfl⟩
  ·
   exact .gen (GT.zb (List.mem_append_right _ (List.mem_singleton.2 rfl)) fun i hi=>by omega)
  ·
   exact .gen (.inl ⟨j,Nat.zero_le _,hj,hr,rfl⟩)
 refine h.step (h.inv.tab.set hj hn) (fun s hs => ?_) (fun k g hg => ?_) (fun g hg => ?_) (fun i hi hr e => ?_)
 ·
  rcases List.mem_append.1 hs with hs|hs
  ·
   exact h.inv.sts s (List.mem_append_left _ hs)
  ·
   exact(hws s hs).1
 ·
  rcases hg with ⟨i,hk,hi,hr,rfl⟩|⟨s,hs,hk,rfl⟩
  ·
   by_cases e:i=j
   ·
    subst e
    exact(ho hr).mono (new k hk)
   ·
    exact .gen (.inl ⟨i,hk,hi,by rw[ZcV e];exact hr,by rw[ZcV e]⟩)
  ·
   rcases List.mem_append.1 hs with hs|hs
   ·
    exact .gen (.inr ⟨s,List.mem_append_left _ hs,hk,rfl⟩)
   ·
    rw[List.mem_singleton]at hs
    subst hs
    have hkj:k≤j:=by
     by_cases q:k≤j
     ·
      exact q
     ·
      exact absurd (hk j (by omega)) hvj
    exact hv.mono (new k hkj)
 ·
  rcases hg with ⟨i,hk,hi,hr,rfl⟩|⟨s,hs,hk,rfl⟩
  ·
   by_cases e:i=j
   ·
    subst e
    rw[hsame]
    exact(hb _ (.inl rfl)).mono old
   ·
    rw[ZcV e]at hr ⊢
    exact .gen (.inl ⟨i,hk,hi,hr,rfl⟩)
  ·
   rcases List.mem_append.1 hs with hs|hs
   ·
    exact .gen (.inr ⟨s,List.mem_append_left _ hs,hk,rfl⟩)
   ·
    exact(hb _ (.inr ⟨s,hs,rfl⟩)).mono old
 ·
  by_cases q:i=j
  ·
   subst q
   rw[hsame]
   exact hd.mono fun g hg=>by
    obtain⟨w,hw,rfl⟩:=hg
    exact .gen (GT.zb (List.mem_append_right _ hw) (hws w hw).2)
  ·
   exact absurd (ZcV q) e
end
end Go.Proofs.YthmcpmnhdbeahaaGreat.V
