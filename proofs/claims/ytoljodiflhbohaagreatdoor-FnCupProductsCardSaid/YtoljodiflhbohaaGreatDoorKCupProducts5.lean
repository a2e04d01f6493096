/- What the proof of the law CupProducts stands on, part 5: words, each Go function's Lean function, and that the Go code comes to its answers; no condition. (Packed by wip/myprint/pack.py out of what the kit's printer wrote, its words among it, partly by our patches of it, and out of texts of this session.) -/
import Derived.Test.YtoljodiflhbohaaGreatDoorKCupProducts3
import Derived.Test.YtoljodiflhbohaaGreatDoorKCupProducts4
set_option linter.unusedVariables false
set_option linter.unusedSimpArgs false
set_option maxRecDepth 100000
namespace Go.Proofs.YtoljodiflhbohaaGreatDoor.P
open Go Go.RowKit Go.Proofs.YtoljodiflhbohaaGreatDoor.D
noncomputable def Zav.E:Env:={ tt:=TT,con:=[(45,Zo.con),(61,ZX.con),(60,ZaH.con),(62,ZS.con),(38,Za7.con),(63,Zam.con)],frz:=[],rows:=[15],live:=[],n:=38,pin:=0,nils:=[] }
noncomputable def Zav.fn:D.Fn:={ body:=Tryz.f16.body.getD .skip,res:=Tryz.f16.results.toList,ins:=[.agg [.v (.sl 27 (.sl 2 (.int .i64)))],.agg [.v (.int .i64),.v (.sl 2 (.int .i64))],.agg [.v (.int .i64),.v (.sl 2 (.int .i64))],.one (.v (.int .i64))],outs:=[.agg [.v (.int .i64),.own 2 true (.int .i64)],.one (.v (.int .i64))] }
def Zav.enc (y:lsd (flats Zav.fn.outs)×lsd (ios Zav.fn.ins)):Int×(List Int)×Int:=(y.1.1,y.1.2.1,y.1.2.2.1)
noncomputable def Zav.f (l0_0:List (List Int)) (a1_0:Int) (l1_1:List Int) (a2_0:Int) (l2_1:List Int) (a3:Int):Option (Int×(List Int)×Int):=denF Zav.E Zav.fn Zav.enc (l0_0,a1_0,l1_1,a2_0,l2_1,a3,())
theorem Zav.f_eq (l0_0:List (List Int)) (a1_0:Int) (l1_1:List Int) (a2_0:Int) (l2_1:List Int) (a3:Int):Zav.f l0_0 a1_0 l1_1 a2_0 l2_1 a3=(Zo.f l0_0 a1_0 l1_1 ([(a2_0,l2_1)]:List (Int×(List Int)))).bind fun t16=>if t16=0 then((ZX.f l0_0).bind fun t22=>(ZaH.f t22 ([a3]:List Int)).bind fun t25=>if t25=true then((ZS.f l0_0 a3).bind fun t30=>(Za7.f l0_0 a1_0 a2_0 (fun z0=>(Zam.f z0 a1_0 l1_1 a3 a2_0 l2_1 l0_0 t30).map fun z=>z)).bind fun t37=>some (t37.1,t37.2,0))else(some (0,([]:List Int),2)))else(some (0,([]:List Int),t16)):=by kernel_rfl
noncomputable def Zav.con:Con:=⟨Zav.fn.ins,Zav.fn.outs,Int×(List Int)×Int,fun x=>Zav.f x.1 x.2.1 x.2.2.1 x.2.2.2.1 x.2.2.2.2.1 x.2.2.2.2.2.1,fun r=>((r.1,r.2.1,r.2.2,()),(()))⟩
theorem Zav.valid:Valid Tryz.prog 16 Zav.con:=fnV Zav.fn Zav.E Zav.enc ⟨ttOk,(Zf Zo.valid (Zf ZX.valid (Zf ZaH.valid (Zf ZS.valid (Zf Za7.valid (Zf Zam.valid Zaq))))))⟩ Tryz.func16
end Go.Proofs.YtoljodiflhbohaaGreatDoor.P
namespace Go.Proofs.YtoljodiflhbohaaGreatDoor.P
open Go Go.RowKit Go.Proofs.YtoljodiflhbohaaGreatDoor.D
noncomputable def ZU.E:Env:={ tt:=TT,con:=[(31,Zp.con)],frz:=[],rows:=[],live:=[(2,[1,2,5])],n:=22,pin:=0,nils:=[] }
noncomputable def ZU.fn:D.Fn:={ body:=Tryz.f104.body.getD .skip,res:=Tryz.f104.results.toList,ins:=[.agg [.v (.sl 27 (.sl 2 (.int .i64)))],.one (.v (.int .i64))],outs:=[.one (.v (.int .i64))] }
def ZU.enc (y:lsd (flats ZU.fn.outs)×lsd (ios ZU.fn.ins)):Int:=y.1.1
noncomputable def ZU.f (l0_0:List (List Int)) (a1:Int):Option Int:=denF ZU.E ZU.fn ZU.enc (l0_0,a1,())
noncomputable def ZU.l0 (x1:Int) (x5:Int) (b0_0:List (List Int)):Option Int:=denAt ZU.E ZU.fn ZU.enc [1,0,1,0] { fr:=[(1,.lf (.int .i64 x1)),(2,.lf (.box 0 0)),(5,.lf (.int .i64 x5))],ob:=[(0,.box 26 false [.sl (.sl 2 (.int .i64)) b0_0])],nx:=1 }
theorem ZU.f_eq (l0_0:List (List Int)) (a1:Int):ZU.f l0_0 a1=ZU.l0 a1 0 l0_0:=by kernel_rfl
theorem ZU.l0_eq (x1:Int) (x5:Int) (b0_0:List (List Int)):ZU.l0 x1 x5 b0_0=(Zp.f b0_0).bind fun t8=>if x5 < t8 then(if 0≤x1 then(if x1 < (b0_0.length:Int)then(if 0≤x5 then(if x5 < ((row b0_0 x1).length:Int)then(if(T b0_0 x1 x5)=0 then(some x5)else(ZU.l0 x1 (wrapI (x5+1)) b0_0))else none)else none)else none)else none)else(some 0):=(Zy _ _ _ _).trans (by kernel_rfl)
noncomputable def ZU.con:Con:=⟨ZU.fn.ins,ZU.fn.outs,Int,fun x=>ZU.f x.1 x.2.1,fun r=>((r,()),(()))⟩
theorem ZU.valid:Valid Tryz.prog 104 ZU.con:=fnV ZU.fn ZU.E ZU.enc ⟨ttOk,(Zf Zp.valid Zaq)⟩ Tryz.func104
end Go.Proofs.YtoljodiflhbohaaGreatDoor.P
namespace Go.Proofs.YtoljodiflhbohaaGreatDoor.P
open Go Go.RowKit Go.Proofs.YtoljodiflhbohaaGreatDoor.D
noncomputable def Zas.E:Env:={ tt:=TT,con:=[(104,ZU.con)],frz:=[],rows:=[],live:=[],n:=24,pin:=0,nils:=[] }
noncomputable def Zas.fn:D.Fn:={ body:=Tryz.f105.body.getD .skip,res:=Tryz.f105.results.toList,ins:=[.agg [.v (.sl 27 (.sl 2 (.int .i64)))],.one (.v (.int .i64)),.one (.v (.int .i64))],outs:=[.one (.v (.int .i64))] }
def Zas.enc (y:lsd (flats Zas.fn.outs)×lsd (ios Zas.fn.ins)):Int:=y.1.1
noncomputable def Zas.f (l0_0:List (List Int)) (a1:Int) (a2:Int):Option Int:=denF Zas.E Zas.fn Zas.enc (l0_0,a1,a2,())
theorem Zas.f_eq (l0_0:List (List Int)) (a1:Int) (a2:Int):Zas.f l0_0 a1 a2=if 0≤a2 then(if a2 < (l0_0.length:Int)then(if 0≤a1 then(if a1 < ((row l0_0 a2).length:Int)then(if 0≤T l0_0 a2 a1 then(if T l0_0 a2 a1 < (l0_0.length:Int)then((ZU.f l0_0 a2).bind fun t21=>if 0≤t21 then(if t21 < ((row l0_0 (T l0_0 a2 a1)).length:Int)then(some (T l0_0 (T l0_0 a2 a1) t21))else none)else none)else none)else none)else none)else none)else none)else none:=by kernel_rfl
noncomputable def Zas.con:Con:=⟨Zas.fn.ins,Zas.fn.outs,Int,fun x=>Zas.f x.1 x.2.1 x.2.2.1,fun r=>((r,()),(()))⟩
theorem Zas.valid:Valid Tryz.prog 105 Zas.con:=fnV Zas.fn Zas.E Zas.enc ⟨ttOk,(Zf ZU.valid Zaq)⟩ Tryz.func105
end Go.Proofs.YtoljodiflhbohaaGreatDoor.P
namespace Go.Proofs.YtoljodiflhbohaaGreatDoor.P
open Go Go.RowKit Go.Proofs.YtoljodiflhbohaaGreatDoor.D
noncomputable def Zag.E:Env:={ tt:=TT,con:=[(104,ZU.con),(91,ZN.con),(92,Zai.con),(105,Zas.con),(94,Zat.con),(93,Za0.con)],frz:=[],rows:=[],live:=[(3,[3,4,5,6,8,9,10,11]),(7,[3,4,5,6,8,9,10,11,12,13])],n:=69,pin:=0,nils:=[] }
noncomputable def Zag.fn:D.Fn:={ body:=Tryz.f67.body.getD .skip,res:=Tryz.f67.results.toList,ins:=[.agg [.v (.sl 27 (.sl 2 (.int .i64)))],.agg [.v (.int .i64),.v (.sl 2 (.int .i64))],.agg [.v (.int .i64),.v (.sl 2 (.int .i64))],.one (.v (.int .i64))],outs:=[.agg [.v (.int .i64),.own 2 true (.int .i64)]] }
def Zag.enc (y:lsd (flats Zag.fn.outs)×lsd (ios Zag.fn.ins)):Int×(List Int):=(y.1.1,y.1.2.1)
noncomputable def Zag.f (l0_0:List (List Int)) (a1_0:Int) (l1_1:List Int) (a2_0:Int) (l2_1:List Int) (a3:Int):Option (Int×(List Int)):=denF Zag.E Zag.fn Zag.enc (l0_0,a1_0,l1_1,a2_0,l2_1,a3,())
noncomputable def Zag.l0 (x3:Int) (x10:Int) (x11:Int) (b0_0:List (List Int)) (b1_0:Int) (b1_1:List Int) (b2_0:Int) (b2_1:List Int) (b3_0:Int) (b4_0:Int) (r5:List Int):Option (Int×(List Int)):=denAt Zag.E Zag.fn Zag.enc [1,1,0,1,0] { fr:=[(3,.lf (.int .i64 x3)),(4,.lf (.box 0 0)),(5,.lf (.box 1 0)),(6,.lf (.box 2 0)),(8,.lf (.box 3 0)),(9,.lf (.box 4 0)),(10,.lf (.int .i64 x10)),(11,.lf (.int .i64 x11))],ob:=[(0,.box 26 false [.sl (.sl 2 (.int .i64)) b0_0]),(1,.box 29 false [.int .i64 b1_0,.sl (.int .i64) b1_1]),(2,.box 31 false [.int .i64 b2_0,.sl (.int .i64) b2_1]),(3,.box 31 false [.int .i64 b3_0,.nil]),(4,.box 31 false [.int .i64 b4_0,.own 5]),(5,.row 2 true (.int .i64) r5)],nx:=6 }
noncomputable def Zag.l1 (x3:Int) (x10:Int) (x11:Int) (x13:Int) (b0_0:List (List Int)) (b1_0:Int) (b1_1:List Int) (b2_0:Int) (b2_1:List Int) (b3_0:Int) (b4_0:Int) (r5:List Int) (r6:List Int):Option (Int×(List Int)):=denAt Zag.E Zag.fn Zag.enc [1,1,0,1,0,0,1,0,0,1,0,1,0] { fr:=[(3,.lf (.int .i64 x3)),(4,.lf (.box 0 0)),(5,.lf (.box 1 0)),(6,.lf (.box 2 0)),(8,.lf (.box 3 0)),(9,.lf (.box 4 0)),(10,.lf (.int .i64 x10)),(11,.lf (.int .i64 x11)),(12,.lf (.own 5)),(13,.lf (.int .i64 x13))],ob:=[(0,.box 26 false [.sl (.sl 2 (.int .i64)) b0_0]),(1,.box 29 false [.int .i64 b1_0,.sl (.int .i64) b1_1]),(2,.box 31 false [.int .i64 b2_0,.sl (.int .i64) b2_1]),(3,.box 31 false [.int .i64 b3_0,.nil]),(4,.box 31 false [.int .i64 b4_0,.own 6]),(5,.row 2 true (.int .i64) r5),(6,.row 2 true (.int .i64) r6)],nx:=7 }
theorem Zag.f_eq (l0_0:List (List Int)) (a1_0:Int) (l1_1:List Int) (a2_0:Int) (l2_1:List Int) (a3:Int):Zag.f l0_0 a1_0 l1_1 a2_0 l2_1 a3=(ZU.f l0_0 a3).bind fun t20=>Zag.l0 a3 t20 0 l0_0 a1_0 l1_1 a2_0 l2_1 0 a2_0 ([]:List Int):=by kernel_rfl
theorem Zag.l0_eq (x3:Int) (x10:Int) (x11:Int) (b0_0:List (List Int)) (b1_0:Int) (b1_1:List Int) (b2_0:Int) (b2_1:List Int) (b3_0:Int) (b4_0:Int) (r5:List Int):Zag.l0 x3 x10 x11 b0_0 b1_0 b1_1 b2_0 b2_1 b3_0 b4_0 r5=(ZN.f b0_0 b2_0).bind fun t25=>if x11 < t25 then((Zai.f b0_0 b2_0 x11).bind fun t33=>Zag.l1 x3 x10 x11 0 b0_0 b1_0 b1_1 b2_0 b2_1 b3_0 b4_0 t33 r5)else(some (b4_0,r5)):=(Zy _ _ _ _).trans (by kernel_rfl)
theorem Zag.l1_eq (x3:Int) (x10:Int) (x11:Int) (x13:Int) (b0_0:List (List Int)) (b1_0:Int) (b1_1:List Int) (b2_0:Int) (b2_1:List Int) (b3_0:Int) (b4_0:Int) (r5:List Int) (r6:List Int):Zag.l1 x3 x10 x11 x13 b0_0 b1_0 b1_1 b2_0 b2_1 b3_0 b4_0 r5 r6=if x13 < (r5.length:Int)then(if 0≤x13 then(if x13 < (r5.length:Int)then(if 0≤x13 then(if x13 < (r5.length:Int)then((Zas.f b0_0 (rd r5 x13) x10).bind fun t48=>if 0≤x13 then(if x13 < (r5.length:Int)then(if 0≤x13 then(if x13 < (r5.length:Int)then(Zag.l1 x3 x10 x11 (wrapI (x13+1)) b0_0 b1_0 b1_1 b2_0 b2_1 b3_0 b4_0 (r5.set (x13:Int).toNat t48) r6)else none)else none)else none)else none)else none)else none)else none)else none)else(if 0≤x3 then(if x3 < (b1_1.length:Int)then((Zat.f b0_0 b2_0 b2_1 r5).bind fun t60=>(Za0.f (wrapI ((rd b1_1 x3)*t60)) b1_0).bind fun t64=>if r6.length+([t64]:List Int).length≤17592186044416 then(Zag.l0 x3 x10 (wrapI (x11+1)) b0_0 b1_0 b1_1 b2_0 b2_1 b3_0 b4_0 (r6++([t64]:List Int)))else none)else none)else none):=(Zy _ _ _ _).trans (by kernel_rfl)
noncomputable def Zag.con:Con:=⟨Zag.fn.ins,Zag.fn.outs,Int×(List Int),fun x=>Zag.f x.1 x.2.1 x.2.2.1 x.2.2.2.1 x.2.2.2.2.1 x.2.2.2.2.2.1,fun r=>((r.1,r.2,()),(()))⟩
theorem Zag.valid:Valid Tryz.prog 67 Zag.con:=fnV Zag.fn Zag.E Zag.enc ⟨ttOk,(Zf ZU.valid (Zf ZN.valid (Zf Zai.valid (Zf Zas.valid (Zf Zat.valid (Zf Za0.valid Zaq))))))⟩ Tryz.func67
end Go.Proofs.YtoljodiflhbohaaGreatDoor.P
namespace Go.Proofs.YtoljodiflhbohaaGreatDoor.P
open Go Go.RowKit Go.Proofs.YtoljodiflhbohaaGreatDoor.D
noncomputable def ZO.E:Env:={ tt:=TT,con:=[(42,ZJ.con),(56,ZQ.con),(67,Zag.con)],frz:=[],rows:=[14],live:=[(4,[3,4,5,6,8,10])],n:=34,pin:=0,nils:=[] }
noncomputable def ZO.fn:D.Fn:={ body:=Tryz.f17.body.getD .skip,res:=Tryz.f17.results.toList,ins:=[.agg [.v (.sl 27 (.sl 2 (.int .i64)))],.agg [.v (.int .i64),.v (.sl 2 (.int .i64))],.agg [.v (.int .i64),.v (.sl 2 (.int .i64))],.one (.v (.int .i64))],outs:=[.agg [.v (.int .i64),.own 2 true (.int .i64)],.one (.v (.int .i64))] }
def ZO.enc (y:lsd (flats ZO.fn.outs)×lsd (ios ZO.fn.ins)):Int×(List Int)×Int:=(y.1.1,y.1.2.1,y.1.2.2.1)
noncomputable def ZO.f (l0_0:List (List Int)) (a1_0:Int) (l1_1:List Int) (a2_0:Int) (l2_1:List Int) (a3:Int):Option (Int×(List Int)×Int):=denF ZO.E ZO.fn ZO.enc (l0_0,a1_0,l1_1,a2_0,l2_1,a3,())
noncomputable def ZO.j0 (x3:Int) (x10:Int) (b0_0:List (List Int)) (b1_0:Int) (b1_1:List Int) (b2_0:Int) (b2_1:List Int) (b3_0:Int):Option (Int×(List Int)×Int):=denAt ZO.E ZO.fn ZO.enc [1,1,1] { fr:=[(3,.lf (.int .i64 x3)),(4,.lf (.box 0 0)),(5,.lf (.box 1 0)),(6,.lf (.box 2 0)),(8,.lf (.box 3 0)),(10,.lf (.int .i64 x10))],ob:=[(0,.box 26 false [.sl (.sl 2 (.int .i64)) b0_0]),(1,.box 29 false [.int .i64 b1_0,.sl (.int .i64) b1_1]),(2,.box 31 false [.int .i64 b2_0,.sl (.int .i64) b2_1]),(3,.box 31 false [.int .i64 b3_0,.nil])],nx:=4 }
theorem ZO.f_eq (l0_0:List (List Int)) (a1_0:Int) (l1_1:List Int) (a2_0:Int) (l2_1:List Int) (a3:Int):ZO.f l0_0 a1_0 l1_1 a2_0 l2_1 a3=(ZJ.f l0_0 a1_0 l1_1 ([(a2_0,l2_1)]:List (Int×(List Int)))).bind fun t15=>if t15=0 then((ZQ.f l0_0 ([a3]:List Int)).bind fun t22=>if t22=0 then(ZO.j0 a3 t15 l0_0 a1_0 l1_1 a2_0 l2_1 0)else(ZO.j0 a3 2 l0_0 a1_0 l1_1 a2_0 l2_1 0))else(ZO.j0 a3 t15 l0_0 a1_0 l1_1 a2_0 l2_1 0):=by kernel_rfl
theorem ZO.j0_eq (x3:Int) (x10:Int) (b0_0:List (List Int)) (b1_0:Int) (b1_1:List Int) (b2_0:Int) (b2_1:List Int) (b3_0:Int):ZO.j0 x3 x10 b0_0 b1_0 b1_1 b2_0 b2_1 b3_0=if x10=0 then((Zag.f b0_0 b1_0 b1_1 b2_0 b2_1 x3).bind fun t33=>some (t33.1,t33.2,0))else(some (0,([]:List Int),x10)):=by kernel_rfl
noncomputable def ZO.con:Con:=⟨ZO.fn.ins,ZO.fn.outs,Int×(List Int)×Int,fun x=>ZO.f x.1 x.2.1 x.2.2.1 x.2.2.2.1 x.2.2.2.2.1 x.2.2.2.2.2.1,fun r=>((r.1,r.2.1,r.2.2,()),(()))⟩
theorem ZO.valid:Valid Tryz.prog 17 ZO.con:=fnV ZO.fn ZO.E ZO.enc ⟨ttOk,(Zf ZJ.valid (Zf ZQ.valid (Zf Zag.valid Zaq)))⟩ Tryz.func17
end Go.Proofs.YtoljodiflhbohaaGreatDoor.P
namespace Go.Proofs.YtoljodiflhbohaaGreatDoor.P
open Go Go.RowKit Go.Proofs.YtoljodiflhbohaaGreatDoor.D
noncomputable def Zan.E:Env:={ tt:=TT,con:=[(46,ZaX.con)],frz:=[],rows:=[],live:=[(2,[13,14,15])],n:=22,pin:=0,nils:=[] }
noncomputable def Zan.fn:D.Fn:={ body:=Tryz.f68.body.getD .skip,res:=Tryz.f68.results.toList,ins:=[.agg [.v (.sl 27 (.sl 2 (.int .i64)))],.agg [.v (.int .i64),.v (.sl 2 (.int .i64))],.agg [.v (.int .i64),.v (.sl 2 (.int .i64))]],outs:=[.one (.v .bool)] }
def Zan.enc (y:lsd (flats Zan.fn.outs)×lsd (ios Zan.fn.ins)):Bool:=y.1.1
noncomputable def Zan.f (l0_0:List (List Int)) (a1_0:Int) (l1_1:List Int) (a2_0:Int) (l2_1:List Int):Option Bool:=denF Zan.E Zan.fn Zan.enc (l0_0,a1_0,l1_1,a2_0,l2_1,())
noncomputable def Zan.l0 (x14:Int) (x15:Int) (r0:List Int):Option Bool:=denAt Zan.E Zan.fn Zan.enc [1,0,1,0] { fr:=[(13,.lf (.own 0)),(14,.lf (.int .i64 x14)),(15,.lf (.int .i64 x15))],ob:=[(0,.row 2 true (.int .i64) r0)],nx:=1 }
theorem Zan.f_eq (l0_0:List (List Int)) (a1_0:Int) (l1_1:List Int) (a2_0:Int) (l2_1:List Int):Zan.f l0_0 a1_0 l1_1 a2_0 l2_1=(ZaX.f l0_0 a1_0 l1_1 a2_0 l2_1).bind fun t12=>Zan.l0 (t12.2.length:Int) 0 t12.2:=by kernel_rfl
theorem Zan.l0_eq (x14:Int) (x15:Int) (r0:List Int):Zan.l0 x14 x15 r0=if x15 < x14 then(if 0≤x15 then(if x15 < (r0.length:Int)then(if 0≤x15 then(if x15 < (r0.length:Int)then(if(rd r0 x15)=0 then(Zan.l0 x14 (wrapI (x15+1)) r0)else(some false))else none)else none)else none)else none)else(some true):=(Zy _ _ _ _).trans (by kernel_rfl)
noncomputable def Zan.con:Con:=⟨Zan.fn.ins,Zan.fn.outs,Bool,fun x=>Zan.f x.1 x.2.1 x.2.2.1 x.2.2.2.1 x.2.2.2.2.1,fun r=>((r,()),(()))⟩
theorem Zan.valid:Valid Tryz.prog 68 Zan.con:=fnV Zan.fn Zan.E Zan.enc ⟨ttOk,(Zf ZaX.valid Zaq)⟩ Tryz.func68
end Go.Proofs.YtoljodiflhbohaaGreatDoor.P
namespace Go.Proofs.YtoljodiflhbohaaGreatDoor.P
open Go Go.RowKit Go.Proofs.YtoljodiflhbohaaGreatDoor.D
noncomputable def ZaW.E:Env:={ tt:=TT,con:=[(45,Zo.con),(68,Zan.con)],frz:=[],rows:=[12],live:=[],n:=21,pin:=0,nils:=[] }
noncomputable def ZaW.fn:D.Fn:={ body:=Tryz.f18.body.getD .skip,res:=Tryz.f18.results.toList,ins:=[.agg [.v (.sl 27 (.sl 2 (.int .i64)))],.agg [.v (.int .i64),.v (.sl 2 (.int .i64))],.agg [.v (.int .i64),.v (.sl 2 (.int .i64))]],outs:=[.one (.v .bool),.one (.v (.int .i64))] }
def ZaW.enc (y:lsd (flats ZaW.fn.outs)×lsd (ios ZaW.fn.ins)):Bool×Int:=(y.1.1,y.1.2.1)
noncomputable def ZaW.f (l0_0:List (List Int)) (a1_0:Int) (l1_1:List Int) (a2_0:Int) (l2_1:List Int):Option (Bool×Int):=denF ZaW.E ZaW.fn ZaW.enc (l0_0,a1_0,l1_1,a2_0,l2_1,())
theorem ZaW.f_eq (l0_0:List (List Int)) (a1_0:Int) (l1_1:List Int) (a2_0:Int) (l2_1:List Int):ZaW.f l0_0 a1_0 l1_1 a2_0 l2_1=(Zo.f l0_0 a1_0 l1_1 ([(a2_0,l2_1)]:List (Int×(List Int)))).bind fun t13=>if t13=0 then((Zan.f l0_0 a1_0 l1_1 a2_0 l2_1).bind fun t20=>some (decide (t20=true),0))else(some (false,t13)):=by kernel_rfl
noncomputable def ZaW.con:Con:=⟨ZaW.fn.ins,ZaW.fn.outs,Bool×Int,fun x=>ZaW.f x.1 x.2.1 x.2.2.1 x.2.2.2.1 x.2.2.2.2.1,fun r=>((r.1,r.2,()),(()))⟩
theorem ZaW.valid:Valid Tryz.prog 18 ZaW.con:=fnV ZaW.fn ZaW.E ZaW.enc ⟨ttOk,(Zf Zo.valid (Zf Zan.valid Zaq))⟩ Tryz.func18
end Go.Proofs.YtoljodiflhbohaaGreatDoor.P
namespace Go.Proofs.YtoljodiflhbohaaGreatDoor.P
open Go Go.RowKit Go.Proofs.YtoljodiflhbohaaGreatDoor.D
noncomputable def ZaA.E:Env:={ tt:=TT,con:=[(83,Zq.con),(61,ZX.con),(60,ZaH.con)],frz:=[],rows:=[],live:=[],n:=15,pin:=0,nils:=[] }
noncomputable def ZaA.fn:D.Fn:={ body:=Tryz.f69.body.getD .skip,res:=Tryz.f69.results.toList,ins:=[.agg [.v (.sl 27 (.sl 2 (.int .i64)))],.one (.v (.sl 2 (.int .i64)))],outs:=[.one (.v (.int .i64))] }
def ZaA.enc (y:lsd (flats ZaA.fn.outs)×lsd (ios ZaA.fn.ins)):Int:=y.1.1
noncomputable def ZaA.f (l0_0:List (List Int)) (l1:List Int):Option Int:=denF ZaA.E ZaA.fn ZaA.enc (l0_0,l1,())
theorem ZaA.f_eq (l0_0:List (List Int)) (l1:List Int):ZaA.f l0_0 l1=(Zq.f l0_0).bind fun t7=>if t7=true then((ZX.f l0_0).bind fun t11=>(ZaH.f t11 l1).bind fun t13=>if t13=true then(some 0)else(some 2))else(some 1):=by kernel_rfl
noncomputable def ZaA.con:Con:=⟨ZaA.fn.ins,ZaA.fn.outs,Int,fun x=>ZaA.f x.1 x.2.1,fun r=>((r,()),(()))⟩
theorem ZaA.valid:Valid Tryz.prog 69 ZaA.con:=fnV ZaA.fn ZaA.E ZaA.enc ⟨ttOk,(Zf Zq.valid (Zf ZX.valid (Zf ZaH.valid Zaq)))⟩ Tryz.func69
end Go.Proofs.YtoljodiflhbohaaGreatDoor.P
namespace Go.Proofs.YtoljodiflhbohaaGreatDoor.P
open Go Go.RowKit Go.Proofs.YtoljodiflhbohaaGreatDoor.D
noncomputable def ZK.E:Env:={ tt:=TT,con:=[(41,Zl.con)],frz:=[],rows:=[],live:=[(3,[1,2,5,6])],n:=18,pin:=0,nils:=[] }
noncomputable def ZK.fn:D.Fn:={ body:=Tryz.f106.body.getD .skip,res:=Tryz.f106.results.toList,ins:=[.agg [.v (.sl 27 (.sl 2 (.int .i64)))],.one (.v (.int .i64))],outs:=[.one (.v (.int .i64))] }
def ZK.enc (y:lsd (flats ZK.fn.outs)×lsd (ios ZK.fn.ins)):Int:=y.1.1
noncomputable def ZK.f (l0_0:List (List Int)) (a1:Int):Option Int:=denF ZK.E ZK.fn ZK.enc (l0_0,a1,())
noncomputable def ZK.l0 (x1:Int) (x5:Int) (x6:Int) (b0_0:List (List Int)):Option Int:=denAt ZK.E ZK.fn ZK.enc [1,1,0,1,0] { fr:=[(1,.lf (.int .i64 x1)),(2,.lf (.box 0 0)),(5,.lf (.int .i64 x5)),(6,.lf (.int .i64 x6))],ob:=[(0,.box 26 false [.sl (.sl 2 (.int .i64)) b0_0])],nx:=1 }
theorem ZK.f_eq (l0_0:List (List Int)) (a1:Int):ZK.f l0_0 a1=ZK.l0 a1 1 a1 l0_0:=by kernel_rfl
theorem ZK.l0_eq (x1:Int) (x5:Int) (x6:Int) (b0_0:List (List Int)):ZK.l0 x1 x5 x6 b0_0=if x6=0 then(some x5)else((Zl.f b0_0 ([x6,x1]:List Int)).bind fun t14=>ZK.l0 x1 (wrapI (x5+1)) t14 b0_0):=(Zy _ _ _ _).trans (by kernel_rfl)
noncomputable def ZK.con:Con:=⟨ZK.fn.ins,ZK.fn.outs,Int,fun x=>ZK.f x.1 x.2.1,fun r=>((r,()),(()))⟩
theorem ZK.valid:Valid Tryz.prog 106 ZK.con:=fnV ZK.fn ZK.E ZK.enc ⟨ttOk,(Zf Zl.valid Zaq)⟩ Tryz.func106
end Go.Proofs.YtoljodiflhbohaaGreatDoor.P
namespace Go.Proofs.YtoljodiflhbohaaGreatDoor.P
open Go Go.RowKit Go.Proofs.YtoljodiflhbohaaGreatDoor.D
noncomputable def ZE.E:Env:={ tt:=TT,con:=[(62,ZS.con),(106,ZK.con),(41,Zl.con)],frz:=[],rows:=[],live:=[(3,[1,2,3]),(5,[1,3,7,19,20])],n:=29,pin:=0,nils:=[] }
noncomputable def ZE.fn:D.Fn:={ body:=Tryz.f70.body.getD .skip,res:=Tryz.f70.results.toList,ins:=[.agg [.v (.sl 27 (.sl 2 (.int .i64)))],.one (.v (.int .i64)),.one (.v (.int .i64))],outs:=[.one (.v (.int .i64))] }
def ZE.enc (y:lsd (flats ZE.fn.outs)×lsd (ios ZE.fn.ins)):Int:=y.1.1
noncomputable def ZE.f (l0_0:List (List Int)) (a1:Int) (a2:Int):Option Int:=denF ZE.E ZE.fn ZE.enc (l0_0,a1,a2,())
noncomputable def ZE.j0 (x1:Int) (x2:Int) (b0_0:List (List Int)):Option Int:=denAt ZE.E ZE.fn ZE.enc [1,1] { fr:=[(1,.lf (.int .i64 x1)),(2,.lf (.int .i64 x2)),(3,.lf (.box 0 0))],ob:=[(0,.box 26 false [.sl (.sl 2 (.int .i64)) b0_0])],nx:=1 }
noncomputable def ZE.l1 (x1:Int) (x7:Int) (x19:Int) (x20:Int) (b0_0:List (List Int)):Option Int:=denAt ZE.E ZE.fn ZE.enc [1,1,1,0,1,0] { fr:=[(1,.lf (.int .i64 x1)),(3,.lf (.box 0 0)),(7,.lf (.int .i64 x7)),(19,.lf (.int .i64 x19)),(20,.lf (.int .i64 x20))],ob:=[(0,.box 26 false [.sl (.sl 2 (.int .i64)) b0_0])],nx:=1 }
theorem ZE.f_eq (l0_0:List (List Int)) (a1:Int) (a2:Int):ZE.f l0_0 a1 a2=if a2 < 0 then((ZS.f l0_0 a1).bind fun t12=>ZE.j0 t12 (wrapI (0 - a2)) l0_0)else(ZE.j0 a1 a2 l0_0):=by kernel_rfl
theorem ZE.j0_eq (x1:Int) (x2:Int) (b0_0:List (List Int)):ZE.j0 x1 x2 b0_0=(ZK.f b0_0 x1).bind fun t18=>if t18=0 then none else(ZE.l1 x1 0 ((x2:Int).tmod t18) 0 b0_0):=by kernel_rfl
theorem ZE.l1_eq (x1:Int) (x7:Int) (x19:Int) (x20:Int) (b0_0:List (List Int)):ZE.l1 x1 x7 x19 x20 b0_0=if x20 < x19 then((Zl.f b0_0 ([x7,x1]:List Int)).bind fun t26=>ZE.l1 x1 t26 x19 (wrapI (x20+1)) b0_0)else(some x7):=(Zy _ _ _ _).trans (by kernel_rfl)
noncomputable def ZE.con:Con:=⟨ZE.fn.ins,ZE.fn.outs,Int,fun x=>ZE.f x.1 x.2.1 x.2.2.1,fun r=>((r,()),(()))⟩
theorem ZE.valid:Valid Tryz.prog 70 ZE.con:=fnV ZE.fn ZE.E ZE.enc ⟨ttOk,(Zf ZS.valid (Zf ZK.valid (Zf Zl.valid Zaq)))⟩ Tryz.func70
end Go.Proofs.YtoljodiflhbohaaGreatDoor.P
namespace Go.Proofs.YtoljodiflhbohaaGreatDoor.P
open Go Go.RowKit Go.Proofs.YtoljodiflhbohaaGreatDoor.D
noncomputable def Zbi.E:Env:={ tt:=TT,con:=[(69,ZaA.con),(70,ZE.con)],frz:=[],rows:=[],live:=[],n:=26,pin:=0,nils:=[] }
noncomputable def Zbi.fn:D.Fn:={ body:=Tryz.f19.body.getD .skip,res:=Tryz.f19.results.toList,ins:=[.agg [.v (.sl 27 (.sl 2 (.int .i64)))],.one (.v (.int .i64)),.one (.v (.int .i64))],outs:=[.one (.v (.int .i64)),.one (.v (.int .i64))] }
def Zbi.enc (y:lsd (flats Zbi.fn.outs)×lsd (ios Zbi.fn.ins)):Int×Int:=(y.1.1,y.1.2.1)
noncomputable def Zbi.f (l0_0:List (List Int)) (a1:Int) (a2:Int):Option (Int×Int):=denF Zbi.E Zbi.fn Zbi.enc (l0_0,a1,a2,())
theorem Zbi.f_eq (l0_0:List (List Int)) (a1:Int) (a2:Int):Zbi.f l0_0 a1 a2=(ZaA.f l0_0 ([a1]:List Int)).bind fun t12=>if t12=0 then(if a2 < (-1000000)then(some (0,2))else(if a2 > 1000000 then(some (0,2))else((ZE.f l0_0 a1 a2).bind fun t25=>some (t25,0))))else(some (0,t12)):=by kernel_rfl
noncomputable def Zbi.con:Con:=⟨Zbi.fn.ins,Zbi.fn.outs,Int×Int,fun x=>Zbi.f x.1 x.2.1 x.2.2.1,fun r=>((r.1,r.2,()),(()))⟩
theorem Zbi.valid:Valid Tryz.prog 19 Zbi.con:=fnV Zbi.fn Zbi.E Zbi.enc ⟨ttOk,(Zf ZaA.valid (Zf ZE.valid Zaq))⟩ Tryz.func19
end Go.Proofs.YtoljodiflhbohaaGreatDoor.P
namespace Go.Proofs.YtoljodiflhbohaaGreatDoor.P
open Go Go.RowKit Go.Proofs.YtoljodiflhbohaaGreatDoor.D
noncomputable def Zbm.E:Env:={ tt:=TT,con:=[(28,Zr.con),(33,ZF.con),(50,Zah.con)],frz:=[13,32,43],rows:=[],live:=[],n:=44,pin:=1,nils:=[] }
noncomputable def Zbm.fn:D.Fn:={ body:=Tryz.f107.body.getD .skip,res:=Tryz.f107.results.toList,ins:=[.ptr false 102 [.v (.sl 5 (.int .u8)),.v (.int .i64),.v (.int .u64)],.agg [.v (.int .i64),.v (.sl 2 (.int .i64))]],outs:=[.agg [.v (.int .i64),.v (.sl 2 (.int .i64))]] }
def Zbm.enc (y:lsd (flats Zbm.fn.outs)×lsd (ios Zbm.fn.ins)):Int×(List Int)×(List Int)×Int×Int:=(y.1.1,y.1.2.1,y.2.1,y.2.2.1,y.2.2.2.1)
noncomputable def Zbm.f (l0_0:List Int) (a0_1:Int) (a0_2:Int) (a1_0:Int) (l1_1:List Int):Option (Int×(List Int)×(List Int)×Int×Int):=denF Zbm.E Zbm.fn Zbm.enc (l0_0,a0_1,a0_2,a1_0,l1_1,())
theorem Zbm.f_eq (l0_0:List Int) (a0_1:Int) (a0_2:Int) (a1_0:Int) (l1_1:List Int):Zbm.f l0_0 a0_1 a0_2 a1_0 l1_1=(Zr.f l0_0 a0_1 a0_2 40).bind fun t6=>if t6.1=0 then((ZF.f t6.2.1 t6.2.2.1 t6.2.2.2 ([1,13,wrapI (a1_0+1),0]:List Int)).bind fun t14=>some (t14.1,l1_1,t14.2.1,t14.2.2.1,t14.2.2.2))else(if t6.1=1 then((Zah.f l1_1).bind fun t20=>(Zr.f t6.2.1 t6.2.2.1 t6.2.2.2 (t20.length:Int)).bind fun t28=>(ZF.f t28.2.1 t28.2.2.1 t28.2.2.2 ([0,-1,2,3,a1_0]:List Int)).bind fun t33=>if 0≤t28.1 then(if t28.1 < (t20.length:Int)then(if 0≤t28.1 then(if t28.1 < (t20.length:Int)then(some (a1_0,t20.set (t28.1:Int).toNat t33.1,t33.2.1,t33.2.2.1,t33.2.2.2))else none)else none)else none)else none)else(if t6.1=2 then((Zah.f l1_1).bind fun t39=>if t39.length+([1]:List Int).length≤17592186044416 then(some (a1_0,t39++([1]:List Int),t6.2.1,t6.2.2.1,t6.2.2.2))else none)else(some (a1_0,l1_1,t6.2.1,t6.2.2.1,t6.2.2.2)))):=by kernel_rfl
noncomputable def Zbm.con:Con:=⟨Zbm.fn.ins,Zbm.fn.outs,Int×(List Int)×(List Int)×Int×Int,fun x=>Zbm.f x.1 x.2.1 x.2.2.1 x.2.2.2.1 x.2.2.2.2.1,fun r=>((r.1,r.2.1,()),(r.2.2.1,r.2.2.2.1,r.2.2.2.2,()))⟩
theorem Zbm.valid:Valid Tryz.prog 107 Zbm.con:=fnV Zbm.fn Zbm.E Zbm.enc ⟨ttOk,(Zf Zr.valid (Zf ZF.valid (Zf Zah.valid Zaq)))⟩ Tryz.func107
end Go.Proofs.YtoljodiflhbohaaGreatDoor.P
namespace Go.Proofs.YtoljodiflhbohaaGreatDoor.P
open Go Go.RowKit Go.Proofs.YtoljodiflhbohaaGreatDoor.D
noncomputable def Za3.E:Env:={ tt:=TT,con:=[(26,Zaa.con),(27,Zao.con),(34,ZV.con),(107,Zbm.con),(35,ZM.con)],frz:=[25],rows:=[],live:=[],n:=27,pin:=0,nils:=[] }
noncomputable def Za3.fn:D.Fn:={ body:=Tryz.f71.body.getD .skip,res:=Tryz.f71.results.toList,ins:=[.one (.v (.sl 5 (.int .u8)))],outs:=[.agg [.v (.sl 27 (.sl 2 (.int .i64)))],.agg [.v (.int .i64),.v (.sl 2 (.int .i64))],.agg [.v (.int .i64),.own 2 true (.int .i64)]] }
def Za3.enc (y:lsd (flats Za3.fn.outs)×lsd (ios Za3.fn.ins)):(List (List Int))×Int×(List Int)×Int×(List Int):=(y.1.1,y.1.2.1,y.1.2.2.1,y.1.2.2.2.1,y.1.2.2.2.2.1)
noncomputable def Za3.f (l0:List Int):Option ((List (List Int))×Int×(List Int)×Int×(List Int)):=denF Za3.E Za3.fn Za3.enc (l0,())
theorem Za3.f_eq (l0:List Int):Za3.f l0=(Zaa.f l0).bind fun t10=>(Zao.f t10.1 t10.2.1 t10.2.2).bind fun t13=>(ZV.f t13.2.2.2.2.2.1 t13.2.2.2.2.2.2.1 t13.2.2.2.2.2.2.2 t13.1).bind fun t19=>(Zbm.f t19.2.1 t19.2.2.1 t19.2.2.2 t13.2.1 t13.2.2.1).bind fun t22=>(ZM.f t22.2.2.1 t22.2.2.2.1 t22.2.2.2.2 t13.2.1 t13.2.2.1 t13.2.2.2.1 t13.2.2.2.2.1).bind fun t26=>some (t19.1,t22.1,t22.2.1,t26.1,t26.2.1):=by kernel_rfl
noncomputable def Za3.con:Con:=⟨Za3.fn.ins,Za3.fn.outs,(List (List Int))×Int×(List Int)×Int×(List Int),fun x=>Za3.f x.1,fun r=>((r.1,r.2.1,r.2.2.1,r.2.2.2.1,r.2.2.2.2,()),(()))⟩
theorem Za3.valid:Valid Tryz.prog 71 Za3.con:=fnV Za3.fn Za3.E Za3.enc ⟨ttOk,(Zf Zaa.valid (Zf Zao.valid (Zf ZV.valid (Zf Zbm.valid (Zf ZM.valid Zaq)))))⟩ Tryz.func71
end Go.Proofs.YtoljodiflhbohaaGreatDoor.P
namespace Go.Proofs.YtoljodiflhbohaaGreatDoor.P
open Go Go.RowKit Go.Proofs.YtoljodiflhbohaaGreatDoor.D
noncomputable def Zaf.E:Env:={ tt:=TT,con:=[(71,Za3.con),(26,Zaa.con),(59,Zbc.con)],frz:=[],rows:=[],live:=[],n:=19,pin:=0,nils:=[] }
noncomputable def Zaf.fn:D.Fn:={ body:=Tryz.f20.body.getD .skip,res:=Tryz.f20.results.toList,ins:=[.one (.v (.sl 5 (.int .u8)))],outs:=[.agg [.v (.sl 27 (.sl 2 (.int .i64)))],.agg [.v (.int .i64),.v (.sl 2 (.int .i64))],.one (.v (.int .i64))] }
def Zaf.enc (y:lsd (flats Zaf.fn.outs)×lsd (ios Zaf.fn.ins)):(List (List Int))×Int×(List Int)×Int:=(y.1.1,y.1.2.1,y.1.2.2.1,y.1.2.2.2.1)
noncomputable def Zaf.f (l0:List Int):Option ((List (List Int))×Int×(List Int)×Int):=denF Zaf.E Zaf.fn Zaf.enc (l0,())
theorem Zaf.f_eq (l0:List Int):Zaf.f l0=(Za3.f l0).bind fun t10=>(Zaa.f l0).bind fun t17=>(Zbc.f t17.1 t17.2.1 t17.2.2 3).bind fun t18=>some (t10.1,t10.2.1,t10.2.2.1,t18.1):=by kernel_rfl
noncomputable def Zaf.con:Con:=⟨Zaf.fn.ins,Zaf.fn.outs,(List (List Int))×Int×(List Int)×Int,fun x=>Zaf.f x.1,fun r=>((r.1,r.2.1,r.2.2.1,r.2.2.2,()),(()))⟩
theorem Zaf.valid:Valid Tryz.prog 20 Zaf.con:=fnV Zaf.fn Zaf.E Zaf.enc ⟨ttOk,(Zf Za3.valid (Zf Zaa.valid (Zf Zbc.valid Zaq)))⟩ Tryz.func20
end Go.Proofs.YtoljodiflhbohaaGreatDoor.P
namespace Go.Proofs.YtoljodiflhbohaaGreatDoor.P
open Go Go.RowKit Go.Proofs.YtoljodiflhbohaaGreatDoor.D
noncomputable def ZaD.E:Env:={ tt:=TT,con:=[(36,ZA.con),(85,ZaY.con)],frz:=[],rows:=[10],live:=[],n:=17,pin:=0,nils:=[] }
noncomputable def ZaD.fn:D.Fn:={ body:=Tryz.f72.body.getD .skip,res:=Tryz.f72.results.toList,ins:=[.agg [.v (.sl 27 (.sl 2 (.int .i64)))],.agg [.v (.int .i64),.v (.sl 2 (.int .i64))],.one (.v (.int .i64))],outs:=[.one (.v (.int .i64))] }
def ZaD.enc (y:lsd (flats ZaD.fn.outs)×lsd (ios ZaD.fn.ins)):Int:=y.1.1
noncomputable def ZaD.f (l0_0:List (List Int)) (a1_0:Int) (l1_1:List Int) (a2:Int):Option Int:=denF ZaD.E ZaD.fn ZaD.enc (l0_0,a1_0,l1_1,a2,())
theorem ZaD.f_eq (l0_0:List (List Int)) (a1_0:Int) (l1_1:List Int) (a2:Int):ZaD.f l0_0 a1_0 l1_1 a2=(ZA.f l0_0 ([(a1_0,l1_1)]:List (Int×(List Int)))).bind fun t11=>if t11=true then((ZaY.f a2).bind fun t15=>if t15=true then(some 0)else(some 2))else(some 1):=by kernel_rfl
noncomputable def ZaD.con:Con:=⟨ZaD.fn.ins,ZaD.fn.outs,Int,fun x=>ZaD.f x.1 x.2.1 x.2.2.1 x.2.2.2.1,fun r=>((r,()),(()))⟩
theorem ZaD.valid:Valid Tryz.prog 72 ZaD.con:=fnV ZaD.fn ZaD.E ZaD.enc ⟨ttOk,(Zf ZA.valid (Zf ZaY.valid Zaq))⟩ Tryz.func72
end Go.Proofs.YtoljodiflhbohaaGreatDoor.P
namespace Go.Proofs.YtoljodiflhbohaaGreatDoor.P
open Go Go.RowKit Go.Proofs.YtoljodiflhbohaaGreatDoor.D
noncomputable def Zay.E:Env:={ tt:=TT,con:=[(72,ZaD.con),(73,Zbq.con)],frz:=[],rows:=[],live:=[],n:=20,pin:=0,nils:=[] }
noncomputable def Zay.fn:D.Fn:={ body:=Tryz.f21.body.getD .skip,res:=Tryz.f21.results.toList,ins:=[.agg [.v (.sl 27 (.sl 2 (.int .i64)))],.agg [.v (.int .i64),.v (.sl 2 (.int .i64))],.one (.v (.int .i64))],outs:=[.agg [.v (.int .i64),.own 2 true (.int .i64)],.one (.v (.int .i64))] }
def Zay.enc (y:lsd (flats Zay.fn.outs)×lsd (ios Zay.fn.ins)):Int×(List Int)×Int:=(y.1.1,y.1.2.1,y.1.2.2.1)
noncomputable def Zay.f (l0_0:List (List Int)) (a1_0:Int) (l1_1:List Int) (a2:Int):Option (Int×(List Int)×Int):=denF Zay.E Zay.fn Zay.enc (l0_0,a1_0,l1_1,a2,())
theorem Zay.f_eq (l0_0:List (List Int)) (a1_0:Int) (l1_1:List Int) (a2:Int):Zay.f l0_0 a1_0 l1_1 a2=(ZaD.f l0_0 a1_0 l1_1 a2).bind fun t12=>if t12=0 then((Zbq.f l0_0 a2).bind fun t19=>some (t19.1,t19.2,0))else(some (0,([]:List Int),t12)):=by kernel_rfl
noncomputable def Zay.con:Con:=⟨Zay.fn.ins,Zay.fn.outs,Int×(List Int)×Int,fun x=>Zay.f x.1 x.2.1 x.2.2.1 x.2.2.2.1,fun r=>((r.1,r.2.1,r.2.2,()),(()))⟩
theorem Zay.valid:Valid Tryz.prog 21 Zay.con:=fnV Zay.fn Zay.E Zay.enc ⟨ttOk,(Zf ZaD.valid (Zf Zbq.valid Zaq))⟩ Tryz.func21
end Go.Proofs.YtoljodiflhbohaaGreatDoor.P
namespace Go.Proofs.YtoljodiflhbohaaGreatDoor.P
open Go Go.RowKit Go.Proofs.YtoljodiflhbohaaGreatDoor.D
noncomputable def ZP.E:Env:={ tt:=TT,con:=[(42,ZJ.con),(74,ZaZ.con),(75,Za8.con)],frz:=[],rows:=[],live:=[(4,[2,3,6,8])],n:=26,pin:=0,nils:=[] }
noncomputable def ZP.fn:D.Fn:={ body:=Tryz.f22.body.getD .skip,res:=Tryz.f22.results.toList,ins:=[.agg [.v (.sl 27 (.sl 2 (.int .i64)))],.agg [.v (.int .i64),.v (.sl 2 (.int .i64))],.one (.v (.int .i64))],outs:=[.agg [.v (.int .i64),.own 2 true (.int .i64)],.one (.v (.int .i64))] }
def ZP.enc (y:lsd (flats ZP.fn.outs)×lsd (ios ZP.fn.ins)):Int×(List Int)×Int:=(y.1.1,y.1.2.1,y.1.2.2.1)
noncomputable def ZP.f (l0_0:List (List Int)) (a1_0:Int) (l1_1:List Int) (a2:Int):Option (Int×(List Int)×Int):=denF ZP.E ZP.fn ZP.enc (l0_0,a1_0,l1_1,a2,())
noncomputable def ZP.j0 (x2:Int) (x8:Int) (b0_0:List (List Int)) (b1_0:Int):Option (Int×(List Int)×Int):=denAt ZP.E ZP.fn ZP.enc [1,1,1] { fr:=[(2,.lf (.int .i64 x2)),(3,.lf (.box 0 0)),(6,.lf (.box 1 0)),(8,.lf (.int .i64 x8))],ob:=[(0,.box 26 false [.sl (.sl 2 (.int .i64)) b0_0]),(1,.box 31 false [.int .i64 b1_0,.nil])],nx:=2 }
theorem ZP.f_eq (l0_0:List (List Int)) (a1_0:Int) (l1_1:List Int) (a2:Int):ZP.f l0_0 a1_0 l1_1 a2=(ZJ.f l0_0 a1_0 l1_1 ([]:List (Int×(List Int)))).bind fun t11=>if t11=0 then((ZaZ.f a2 0 3).bind fun t16=>if t16=true then(ZP.j0 a2 t11 l0_0 0)else(ZP.j0 a2 2 l0_0 0))else(ZP.j0 a2 t11 l0_0 0):=by kernel_rfl
theorem ZP.j0_eq (x2:Int) (x8:Int) (b0_0:List (List Int)) (b1_0:Int):ZP.j0 x2 x8 b0_0 b1_0=if x8=0 then((Za8.f b0_0 x2).bind fun t25=>some (t25.1,t25.2,0))else(some (0,([]:List Int),x8)):=by kernel_rfl
noncomputable def ZP.con:Con:=⟨ZP.fn.ins,ZP.fn.outs,Int×(List Int)×Int,fun x=>ZP.f x.1 x.2.1 x.2.2.1 x.2.2.2.1,fun r=>((r.1,r.2.1,r.2.2,()),(()))⟩
theorem ZP.valid:Valid Tryz.prog 22 ZP.con:=fnV ZP.fn ZP.E ZP.enc ⟨ttOk,(Zf ZJ.valid (Zf ZaZ.valid (Zf Za8.valid Zaq)))⟩ Tryz.func22
end Go.Proofs.YtoljodiflhbohaaGreatDoor.P
namespace Go.Proofs.YtoljodiflhbohaaGreatDoor.P
open Go Go.RowKit Go.Proofs.YtoljodiflhbohaaGreatDoor.D
noncomputable def Zae.E:Env:={ tt:=TT,con:=[(71,Za3.con)],frz:=[],rows:=[],live:=[],n:=17,pin:=0,nils:=[] }
noncomputable def Zae.fn:D.Fn:={ body:=Tryz.f23.body.getD .skip,res:=Tryz.f23.results.toList,ins:=[.one (.v (.sl 5 (.int .u8)))],outs:=[.agg [.v (.sl 27 (.sl 2 (.int .i64)))],.agg [.v (.int .i64),.v (.sl 2 (.int .i64))],.agg [.v (.int .i64),.own 2 true (.int .i64)]] }
def Zae.enc (y:lsd (flats Zae.fn.outs)×lsd (ios Zae.fn.ins)):(List (List Int))×Int×(List Int)×Int×(List Int):=(y.1.1,y.1.2.1,y.1.2.2.1,y.1.2.2.2.1,y.1.2.2.2.2.1)
noncomputable def Zae.f (l0:List Int):Option ((List (List Int))×Int×(List Int)×Int×(List Int)):=denF Zae.E Zae.fn Zae.enc (l0,())
theorem Zae.f_eq (l0:List Int):Zae.f l0=(Za3.f l0).bind fun t10=>some (t10.1,t10.2.1,t10.2.2.1,t10.2.2.2.1,t10.2.2.2.2):=by kernel_rfl
noncomputable def Zae.con:Con:=⟨Zae.fn.ins,Zae.fn.outs,(List (List Int))×Int×(List Int)×Int×(List Int),fun x=>Zae.f x.1,fun r=>((r.1,r.2.1,r.2.2.1,r.2.2.2.1,r.2.2.2.2,()),(()))⟩
theorem Zae.valid:Valid Tryz.prog 23 Zae.con:=fnV Zae.fn Zae.E Zae.enc ⟨ttOk,(Zf Za3.valid Zaq)⟩ Tryz.func23
end Go.Proofs.YtoljodiflhbohaaGreatDoor.P
namespace Go.Proofs.YtoljodiflhbohaaGreatDoor.P
open Go Go.RowKit Go.Proofs.YtoljodiflhbohaaGreatDoor.D
noncomputable def istrconv_small.E:Env:={ tt:=TT,con:=[],frz:=[],rows:=[],live:=[],n:=15,pin:=0,nils:=[] }
noncomputable def istrconv_small.fn:D.Fn:={ body:=Tryz.f132.body.getD .skip,res:=Tryz.f132.results.toList,ins:=[.one (.v (.int .i64))],outs:=[.one (.v .str)] }
def istrconv_small.enc (y:lsd (flats istrconv_small.fn.outs)×lsd (ios istrconv_small.fn.ins)):ByteArray:=y.1.1
noncomputable def istrconv_small.f (a0:Int):Option ByteArray:=denF istrconv_small.E istrconv_small.fn istrconv_small.enc (a0,())
theorem istrconv_small.f_eq (a0:Int):istrconv_small.f a0=if a0 < 10 then(if 0≤a0 then(if a0≤wrapI (a0+1)then(if wrapI (a0+1)≤((⟨#[48,49,50,51,52,53,54,55,56,57,97,98,99,100,101,102,103,104,105,106,107,108,109,110,111,112,113,114,115,116,117,118,119,120,121,122]⟩:ByteArray).size:Int)then(some ((⟨#[48,49,50,51,52,53,54,55,56,57,97,98,99,100,101,102,103,104,105,106,107,108,109,110,111,112,113,114,115,116,117,118,119,120,121,122]⟩:ByteArray).extract (a0:Int).toNat (wrapI (a0+1):Int).toNat))else none)else none)else none)else(if 0≤wrapI (a0*2)then(if wrapI (a0*2)≤wrapI ((wrapI (a0*2))+2)then(if wrapI ((wrapI (a0*2))+2)≤((⟨#[48,48,48,49,48,50,48,51,48,52,48,53,48,54,48,55,48,56,48,57,49,48,49,49,49,50,49,51,49,52,49,53,49,54,49,55,49,56,49,57,50,48,50,49,50,50,50,51,50,52,50,53,50,54,50,55,50,56,50,57,51,48,51,49,51,50,51,51,51,52,51,53,51,54,51,55,51,56,51,57,52,48,52,49,52,50,52,51,52,52,52,53,52,54,52,55,52,56,52,57,53,48,53,49,53,50,53,51,53,52,53,53,53,54,53,55,53,56,53,57,54,48,54,49,54,50,54,51,54,52,54,53,54,54,54,55,54,56,54,57,55,48,55,49,55,50,55,51,55,52,55,53,55,54,55,55,55,56,55,57,56,48,56,49,56,50,56,51,56,52,56,53,56,54,56,55,56,56,56,57,57,48,57,49,57,50,57,51,57,52,57,53,57,54,57,55,57,56,57,57]⟩:ByteArray).size:Int)then(some ((⟨#[48,48,48,49,48,50,48,51,48,52,48,53,48,54,48,55,48,56,48,57,49,48,49,49,49,50,49,51,49,52,49,53,49,54,49,55,49,56,49,57,50,48,50,49,50,50,50,51,50,52,50,53,50,54,50,55,50,56,50,57,51,48,51,49,51,50,51,51,51,52,51,53,51,54,51,55,51,56,51,57,52,48,52,49,52,50,52,51,52,52,52,53,52,54,52,55,52,56,52,57,53,48,53,49,53,50,53,51,53,52,53,53,53,54,53,55,53,56,53,57,54,48,54,49,54,50,54,51,54,52,54,53,54,54,54,55,54,56,54,57,55,48,55,49,55,50,55,51,55,52,55,53,55,54,55,55,55,56,55,57,56,48,56,49,56,50,56,51,56,52,56,53,56,54,56,55,56,56,56,57,57,48,57,49,57,50,57,51,57,52,57,53,57,54,57,55,57,56,57,57]⟩:ByteArray).extract (wrapI (a0*2):Int).toNat (wrapI ((wrapI (a0*2))+2):Int).toNat))else none)else none)else none):=by kernel_rfl
noncomputable def istrconv_small.con:Con:=⟨istrconv_small.fn.ins,istrconv_small.fn.outs,ByteArray,fun x=>istrconv_small.f x.1,fun r=>((r,()),(()))⟩
theorem istrconv_small.valid:Valid Tryz.prog 132 istrconv_small.con:=fnV istrconv_small.fn istrconv_small.E istrconv_small.enc ⟨ttOk,Zaq⟩ Tryz.func132
end Go.Proofs.YtoljodiflhbohaaGreatDoor.P
namespace Go.Proofs.YtoljodiflhbohaaGreatDoor.P
open Go Go.RowKit Go.Proofs.YtoljodiflhbohaaGreatDoor.D
noncomputable def istrconv_FormatInt.E:Env:={ tt:=TT,con:=[(132,istrconv_small.con)],frz:=[],rows:=[],live:=[],n:=54,pin:=0,nils:=[] }
noncomputable def istrconv_FormatInt.fn:D.Fn:={ body:=Tryz.f128.body.getD .skip,res:=Tryz.f128.results.toList,ins:=[.one (.v (.int .i64)),.one (.v (.int .i64))],outs:=[.one (.v .str)] }
def istrconv_FormatInt.enc (y:lsd (flats istrconv_FormatInt.fn.outs)×lsd (ios istrconv_FormatInt.fn.ins)):ByteArray:=y.1.1
noncomputable def istrconv_FormatInt.f (a0:Int) (a1:Int):Option ByteArray:=denF istrconv_FormatInt.E istrconv_FormatInt.fn istrconv_FormatInt.enc (a0,a1,())
theorem istrconv_FormatInt.f_eq (a0:Int) (a1:Int):istrconv_FormatInt.f a0 a1=if a1=10 then(if 0≤a0 then(if a0 < 100 then((istrconv_small.f a0).bind fun t19=>some t19)else none)else none)else none:=by kernel_rfl
noncomputable def istrconv_FormatInt.con:Con:=⟨istrconv_FormatInt.fn.ins,istrconv_FormatInt.fn.outs,ByteArray,fun x=>istrconv_FormatInt.f x.1 x.2.1,fun r=>((r,()),(()))⟩
theorem istrconv_FormatInt.valid:Valid Tryz.prog 128 istrconv_FormatInt.con:=fnV istrconv_FormatInt.fn istrconv_FormatInt.E istrconv_FormatInt.enc ⟨ttOk,(Zf istrconv_small.valid Zaq)⟩ Tryz.func128
end Go.Proofs.YtoljodiflhbohaaGreatDoor.P
namespace Go.Proofs.YtoljodiflhbohaaGreatDoor.P
open Go Go.RowKit Go.Proofs.YtoljodiflhbohaaGreatDoor.D
noncomputable def ZaB.E:Env:={ tt:=TT,con:=[(128,istrconv_FormatInt.con)],frz:=[],rows:=[],live:=[],n:=8,pin:=0,nils:=[] }
noncomputable def ZaB.fn:D.Fn:={ body:=Tryz.f125.body.getD .skip,res:=Tryz.f125.results.toList,ins:=[.one (.v (.int .i64)),.one (.v (.int .i64))],outs:=[.one (.v .str)] }
def ZaB.enc (y:lsd (flats ZaB.fn.outs)×lsd (ios ZaB.fn.ins)):ByteArray:=y.1.1
noncomputable def ZaB.f (a0:Int) (a1:Int):Option ByteArray:=denF ZaB.E ZaB.fn ZaB.enc (a0,a1,())
theorem ZaB.f_eq (a0:Int) (a1:Int):ZaB.f a0 a1=(istrconv_FormatInt.f a0 a1).bind fun t7=>some t7:=by kernel_rfl
noncomputable def ZaB.con:Con:=⟨ZaB.fn.ins,ZaB.fn.outs,ByteArray,fun x=>ZaB.f x.1 x.2.1,fun r=>((r,()),(()))⟩
theorem ZaB.valid:Valid Tryz.prog 125 ZaB.con:=fnV ZaB.fn ZaB.E ZaB.enc ⟨ttOk,(Zf istrconv_FormatInt.valid Zaq)⟩ Tryz.func125
end Go.Proofs.YtoljodiflhbohaaGreatDoor.P
namespace Go.Proofs.YtoljodiflhbohaaGreatDoor.P
open Go Go.RowKit Go.Proofs.YtoljodiflhbohaaGreatDoor.D
noncomputable def Zba.E:Env:={ tt:=TT,con:=[(125,ZaB.con)],frz:=[],rows:=[],live:=[],n:=5,pin:=0,nils:=[] }
noncomputable def Zba.fn:D.Fn:={ body:=Tryz.f108.body.getD .skip,res:=Tryz.f108.results.toList,ins:=[.one (.v (.int .i64))],outs:=[.one (.v .str)] }
def Zba.enc (y:lsd (flats Zba.fn.outs)×lsd (ios Zba.fn.ins)):ByteArray:=y.1.1
noncomputable def Zba.f (a0:Int):Option ByteArray:=denF Zba.E Zba.fn Zba.enc (a0,())
theorem Zba.f_eq (a0:Int):Zba.f a0=(ZaB.f a0 10).bind fun t4=>some t4:=by kernel_rfl
noncomputable def Zba.con:Con:=⟨Zba.fn.ins,Zba.fn.outs,ByteArray,fun x=>Zba.f x.1,fun r=>((r,()),(()))⟩
theorem Zba.valid:Valid Tryz.prog 108 Zba.con:=fnV Zba.fn Zba.E Zba.enc ⟨ttOk,(Zf ZaB.valid Zaq)⟩ Tryz.func108
end Go.Proofs.YtoljodiflhbohaaGreatDoor.P
