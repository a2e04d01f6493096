/- What the proof of the law CupProducts stands on, part 4: words, each Go function's Lean function, and that the Go code comes to its answers; no condition. (Packed by wip/myprint/pack.py out of what the kit's printer wrote, its words among it, partly by our patches of it, and out of texts of this session.) -/
import Derived.Test.YtoljodiflhbohaaGreatDoorKCupProducts3
set_option linter.unusedVariables false
set_option linter.unusedSimpArgs false
set_option maxRecDepth 100000
namespace Go.Proofs.YtoljodiflhbohaaGreatDoor.P
open Go Go.RowKit Go.Proofs.YtoljodiflhbohaaGreatDoor.D
noncomputable def Za5.E:Env:={ tt:=TT,con:=[(31,Zp.con),(33,ZF.con)],frz:=[9,12],rows:=[],live:=[],n:=14,pin:=1,nils:=[] }
noncomputable def Za5.fn:D.Fn:={ body:=Tryz.f79.body.getD .skip,res:=Tryz.f79.results.toList,ins:=[.ptr false 102 [.v (.sl 5 (.int .u8)),.v (.int .i64),.v (.int .u64)],.agg [.v (.sl 27 (.sl 2 (.int .i64)))]],outs:=[.one (.v (.int .i64))] }
def Za5.enc (y:lsd (flats Za5.fn.outs)×lsd (ios Za5.fn.ins)):Int×(List Int)×Int×Int:=(y.1.1,y.2.1,y.2.2.1,y.2.2.2.1)
noncomputable def Za5.f (l0_0:List Int) (a0_1:Int) (a0_2:Int) (l1_0:List (List Int)):Option (Int×(List Int)×Int×Int):=denF Za5.E Za5.fn Za5.enc (l0_0,a0_1,a0_2,l1_0,())
theorem Za5.f_eq (l0_0:List Int) (a0_1:Int) (a0_2:Int) (l1_0:List (List Int)):Za5.f l0_0 a0_1 a0_2 l1_0=(Zp.f l1_0).bind fun t6=>if t6 > 5 then((ZF.f l0_0 a0_1 a0_2 ([0,1,1,2,2,3]:List Int)).bind fun t10=>some (t10.1,t10.2.1,t10.2.2.1,t10.2.2.2))else((ZF.f l0_0 a0_1 a0_2 ([0,1,2,2,3]:List Int)).bind fun t13=>some (t13.1,t13.2.1,t13.2.2.1,t13.2.2.2)):=by kernel_rfl
noncomputable def Za5.con:Con:=⟨Za5.fn.ins,Za5.fn.outs,Int×(List Int)×Int×Int,fun x=>Za5.f x.1 x.2.1 x.2.2.1 x.2.2.2.1,fun r=>((r.1,()),(r.2.1,r.2.2.1,r.2.2.2,()))⟩
theorem Za5.valid:Valid Tryz.prog 79 Za5.con:=fnV Za5.fn Za5.E Za5.enc ⟨ttOk,(Zf Zp.valid (Zf ZF.valid Zaq))⟩ Tryz.func79
end Go.Proofs.YtoljodiflhbohaaGreatDoor.P
namespace Go.Proofs.YtoljodiflhbohaaGreatDoor.P
open Go Go.RowKit Go.Proofs.YtoljodiflhbohaaGreatDoor.D
noncomputable def Zao.E:Env:={ tt:=TT,con:=[(78,Zbh.con),(28,Zr.con),(48,Za1.con),(30,Za2.con),(29,ZaR.con),(79,Za5.con),(32,Zu.con)],frz:=[8,13],rows:=[],live:=[(4,[0,2,3,4,5])],n:=28,pin:=1,nils:=[] }
noncomputable def Zao.fn:D.Fn:={ body:=Tryz.f27.body.getD .skip,res:=Tryz.f27.results.toList,ins:=[.ptr false 102 [.v (.sl 5 (.int .u8)),.v (.int .i64),.v (.int .u64)]],outs:=[.agg [.v (.sl 27 (.sl 2 (.int .i64)))],.agg [.v (.int .i64),.v (.sl 2 (.int .i64))],.agg [.v (.int .i64),.own 2 true (.int .i64)]] }
def Zao.enc (y:lsd (flats Zao.fn.outs)×lsd (ios Zao.fn.ins)):(List (List Int))×Int×(List Int)×Int×(List Int)×(List Int)×Int×Int:=(y.1.1,y.1.2.1,y.1.2.2.1,y.1.2.2.2.1,y.1.2.2.2.2.1,y.2.1,y.2.2.1,y.2.2.2.1)
noncomputable def Zao.f (l0_0:List Int) (a0_1:Int) (a0_2:Int):Option ((List (List Int))×Int×(List Int)×Int×(List Int)×(List Int)×Int×Int):=denF Zao.E Zao.fn Zao.enc (l0_0,a0_1,a0_2,())
noncomputable def Zao.j0 (b0_0:List Int) (b0_1:Int) (b0_2:Int) (b2_0:Int) (b3_0:Int) (b4_0:List (List Int)):Option ((List (List Int))×Int×(List Int)×Int×(List Int)×(List Int)×Int×Int):=denAt Zao.E Zao.fn Zao.enc [1,1,1] { fr:=[(0,.lf (.box 0 0)),(2,.lf (.box 1 0)),(3,.lf (.box 2 0)),(4,.lf (.box 3 0)),(5,.lf (.box 4 0))],ob:=[(0,.box 102 false [.sl (.int .u8) b0_0,.int .i64 b0_1,.int .u64 b0_2]),(1,.box 26 false [.nil]),(2,.box 29 false [.int .i64 b2_0,.nil]),(3,.box 31 false [.int .i64 b3_0,.nil]),(4,.box 26 false [.sl (.sl 2 (.int .i64)) b4_0])],nx:=5 }
theorem Zao.f_eq (l0_0:List Int) (a0_1:Int) (a0_2:Int):Zao.f l0_0 a0_1 a0_2=(Zbh.f l0_0 a0_1 a0_2).bind fun t8=>(Zr.f t8.2.1 t8.2.2.1 t8.2.2.2 2).bind fun t10=>if t10.1=0 then((Za1.f t10.2.1 t10.2.2.1 t10.2.2.2).bind fun t13=>Zao.j0 t13.2.1 t13.2.2.1 t13.2.2.2 0 0 t13.1)else(Zao.j0 t10.2.1 t10.2.2.1 t10.2.2.2 0 0 t8.1):=by kernel_rfl
theorem Zao.j0_eq (b0_0:List Int) (b0_1:Int) (b0_2:Int) (b2_0:Int) (b3_0:Int) (b4_0:List (List Int)):Zao.j0 b0_0 b0_1 b0_2 b2_0 b3_0 b4_0=(Za2.f b0_0 b0_1 b0_2).bind fun t17=>(ZaR.f t17.2.1 t17.2.2.1 t17.2.2.2 b4_0 t17.1).bind fun t18=>(Za5.f t18.2.2.1 t18.2.2.2.1 t18.2.2.2.2 b4_0).bind fun t26=>(Zu.f fuel t26.2.1 t26.2.2.1 t26.2.2.2 b4_0 t18.1 t18.2.1 t26.1).bind fun t27=>some (b4_0,t18.1,t18.2.1,t27.1,t27.2.1,t27.2.2.1,t27.2.2.2.1,t27.2.2.2.2):=by kernel_rfl
noncomputable def Zao.con:Con:=⟨Zao.fn.ins,Zao.fn.outs,(List (List Int))×Int×(List Int)×Int×(List Int)×(List Int)×Int×Int,fun x=>Zao.f x.1 x.2.1 x.2.2.1,fun r=>((r.1,r.2.1,r.2.2.1,r.2.2.2.1,r.2.2.2.2.1,()),(r.2.2.2.2.2.1,r.2.2.2.2.2.2.1,r.2.2.2.2.2.2.2,()))⟩
theorem Zao.valid:Valid Tryz.prog 27 Zao.con:=fnV Zao.fn Zao.E Zao.enc ⟨ttOk,(Zf Zbh.valid (Zf Zr.valid (Zf Za1.valid (Zf Za2.valid (Zf ZaR.valid (Zf Za5.valid (Zf Zu.valid Zaq)))))))⟩ Tryz.func27
end Go.Proofs.YtoljodiflhbohaaGreatDoor.P
namespace Go.Proofs.YtoljodiflhbohaaGreatDoor.P
open Go Go.RowKit Go.Proofs.YtoljodiflhbohaaGreatDoor.D
noncomputable def ZV.E:Env:={ tt:=TT,con:=[(82,Zaz.con),(28,Zr.con),(31,Zp.con),(33,ZF.con),(50,Zah.con)],frz:=[33,36,45,49,66],rows:=[46,1000010,1000014],live:=[(8,[4,5]),(10,[4,5]),(11,[4,5]),(14,[4,5,7]),(15,[4,5])],n:=68,pin:=1,nils:=[] }
noncomputable def ZV.fn:D.Fn:={ body:=Tryz.f34.body.getD .skip,res:=Tryz.f34.results.toList,ins:=[.ptr false 102 [.v (.sl 5 (.int .u8)),.v (.int .i64),.v (.int .u64)],.agg [.v (.sl 27 (.sl 2 (.int .i64)))]],outs:=[.agg [.v (.sl 27 (.sl 2 (.int .i64)))]] }
def ZV.enc (y:lsd (flats ZV.fn.outs)×lsd (ios ZV.fn.ins)):(List (List Int))×(List Int)×Int×Int:=(y.1.1,y.2.1,y.2.2.1,y.2.2.2.1)
noncomputable def ZV.f (l0_0:List Int) (a0_1:Int) (a0_2:Int) (l1_0:List (List Int)):Option ((List (List Int))×(List Int)×Int×Int):=denF ZV.E ZV.fn ZV.enc (l0_0,a0_1,a0_2,l1_0,())
theorem ZV.f_eq (l0_0:List Int) (a0_1:Int) (a0_2:Int) (l1_0:List (List Int)):ZV.f l0_0 a0_1 a0_2 l1_0=(Zaz.f l1_0).bind fun t9=>(Zr.f l0_0 a0_1 a0_2 50).bind fun t11=>if t11.1=0 then(some (([]:List (List Int)),t11.2.1,t11.2.2.1,t11.2.2.2))else(if t11.1=1 then((Zp.f l1_0).bind fun t21=>(Zr.f t11.2.1 t11.2.2.1 t11.2.2.2 t21).bind fun t22=>if 0≤t22.1 then(if t22.1 < (t9.length:Int)then(if 0≤t22.1 then(if t22.1 < (t9.length:Int)then((Zp.f l1_0).bind fun t28=>(Zr.f t22.2.1 t22.2.2.1 t22.2.2.2 t28).bind fun t29=>(Zp.f l1_0).bind fun t32=>(ZF.f t29.2.1 t29.2.2.1 t29.2.2.2 ([0,1,-1,t32]:List Int)).bind fun t34=>if 0≤t29.1 then(if t29.1 < ((row t9 t22.1).length:Int)then(if 0≤t29.1 then(if t29.1 < ((row t9 t22.1).length:Int)then(some (t9.set (t22.1:Int).toNat ((row t9 t22.1).set (t29.1:Int).toNat t34.1),t34.2.1,t34.2.2.1,t34.2.2.2))else none)else none)else none)else none)else none)else none)else none)else none)else(if t11.1=2 then(if 0 < (t9.length:Int)then(if 0 < (t9.length:Int)then((Zah.f (row t9 0)).bind fun t45=>if t9.length+([t45]:List (List Int)).length≤5864062014805 then(some (t9++([t45]:List (List Int)),t11.2.1,t11.2.2.1,t11.2.2.2))else none)else none)else none)else(if t11.1=3 then((Zp.f l1_0).bind fun t54=>(Zr.f t11.2.1 t11.2.2.1 t11.2.2.2 t54).bind fun t55=>if 0≤t55.1 then(if t55.1 < (t9.length:Int)then(if 0≤t55.1 then(if t55.1 < (t9.length:Int)then(if 1≤((row t9 t55.1).length:Int)then(if 0≤t55.1 then(if t55.1 < (t9.length:Int)then(if 0≤t55.1 then(if t55.1 < (t9.length:Int)then(some (t9.set (t55.1:Int).toNat ((row t9 t55.1).drop (1:Int).toNat),t55.2.1,t55.2.2.1,t55.2.2.2))else none)else none)else none)else none)else none)else none)else none)else none)else none)else(some (l1_0,t11.2.1,t11.2.2.1,t11.2.2.2))))):=by kernel_rfl
noncomputable def ZV.con:Con:=⟨ZV.fn.ins,ZV.fn.outs,(List (List Int))×(List Int)×Int×Int,fun x=>ZV.f x.1 x.2.1 x.2.2.1 x.2.2.2.1,fun r=>((r.1,()),(r.2.1,r.2.2.1,r.2.2.2,()))⟩
theorem ZV.valid:Valid Tryz.prog 34 ZV.con:=fnV ZV.fn ZV.E ZV.enc ⟨ttOk,(Zf Zaz.valid (Zf Zr.valid (Zf Zp.valid (Zf ZF.valid (Zf Zah.valid Zaq)))))⟩ Tryz.func34
end Go.Proofs.YtoljodiflhbohaaGreatDoor.P
namespace Go.Proofs.YtoljodiflhbohaaGreatDoor.P
open Go Go.RowKit Go.Proofs.YtoljodiflhbohaaGreatDoor.D
noncomputable def ZM.E:Env:={ tt:=TT,con:=[(50,Zah.con),(28,Zr.con),(33,ZF.con)],frz:=[22,48],rows:=[],live:=[],n:=52,pin:=1,nils:=[] }
noncomputable def ZM.fn:D.Fn:={ body:=Tryz.f35.body.getD .skip,res:=Tryz.f35.results.toList,ins:=[.ptr false 102 [.v (.sl 5 (.int .u8)),.v (.int .i64),.v (.int .u64)],.agg [.v (.int .i64),.v (.sl 2 (.int .i64))],.agg [.v (.int .i64),.v (.sl 2 (.int .i64))]],outs:=[.agg [.v (.int .i64),.own 2 true (.int .i64)]] }
def ZM.enc (y:lsd (flats ZM.fn.outs)×lsd (ios ZM.fn.ins)):Int×(List Int)×(List Int)×Int×Int:=(y.1.1,y.1.2.1,y.2.1,y.2.2.1,y.2.2.2.1)
noncomputable def ZM.f (l0_0:List Int) (a0_1:Int) (a0_2:Int) (a1_0:Int) (l1_1:List Int) (a2_0:Int) (l2_1:List Int):Option (Int×(List Int)×(List Int)×Int×Int):=denF ZM.E ZM.fn ZM.enc (l0_0,a0_1,a0_2,a1_0,l1_1,a2_0,l2_1,())
theorem ZM.f_eq (l0_0:List Int) (a0_1:Int) (a0_2:Int) (a1_0:Int) (l1_1:List Int) (a2_0:Int) (l2_1:List Int):ZM.f l0_0 a0_1 a0_2 a1_0 l1_1 a2_0 l2_1=(Zah.f l2_1).bind fun t12=>(Zr.f l0_0 a0_1 a0_2 40).bind fun t15=>if t15.1=0 then((ZF.f t15.2.1 t15.2.2.1 t15.2.2.2 ([-1,4,wrapI (a2_0+1)]:List Int)).bind fun t23=>some (t23.1,t12,t23.2.1,t23.2.2.1,t23.2.2.2))else(if t15.1=1 then(if t12.length+([0]:List Int).length≤17592186044416 then(some (a2_0,t12++([0]:List Int),t15.2.1,t15.2.2.1,t15.2.2.2))else none)else(if t15.1=2 then(if(t12.length:Int) > 0 then((Zr.f t15.2.1 t15.2.2.1 t15.2.2.2 (t12.length:Int)).bind fun t44=>(ZF.f t44.2.1 t44.2.2.1 t44.2.2.2 ([-1,a1_0]:List Int)).bind fun t49=>if 0≤t44.1 then(if t44.1 < (t12.length:Int)then(if 0≤t44.1 then(if t44.1 < (t12.length:Int)then(some (a2_0,t12.set (t44.1:Int).toNat t49.1,t49.2.1,t49.2.2.1,t49.2.2.2))else none)else none)else none)else none)else(some (a2_0,t12,t15.2.1,t15.2.2.1,t15.2.2.2)))else(some (a2_0,t12,t15.2.1,t15.2.2.1,t15.2.2.2)))):=by kernel_rfl
noncomputable def ZM.con:Con:=⟨ZM.fn.ins,ZM.fn.outs,Int×(List Int)×(List Int)×Int×Int,fun x=>ZM.f x.1 x.2.1 x.2.2.1 x.2.2.2.1 x.2.2.2.2.1 x.2.2.2.2.2.1 x.2.2.2.2.2.2.1,fun r=>((r.1,r.2.1,()),(r.2.2.1,r.2.2.2.1,r.2.2.2.2,()))⟩
theorem ZM.valid:Valid Tryz.prog 35 ZM.con:=fnV ZM.fn ZM.E ZM.enc ⟨ttOk,(Zf Zah.valid (Zf Zr.valid (Zf ZF.valid Zaq)))⟩ Tryz.func35
end Go.Proofs.YtoljodiflhbohaaGreatDoor.P
namespace Go.Proofs.YtoljodiflhbohaaGreatDoor.P
open Go Go.RowKit Go.Proofs.YtoljodiflhbohaaGreatDoor.D
noncomputable def Zh.E:Env:={ tt:=TT,con:=[(26,Zaa.con),(27,Zao.con),(28,Zr.con),(30,Za2.con),(29,ZaR.con),(32,Zu.con),(33,ZF.con),(34,ZV.con),(35,ZM.con),(31,Zp.con)],frz:=[18,30,67,72,74],rows:=[2000012],live:=[(9,[2,3,4,5,6,7,8,9,10,11,12]),(12,[2,3,4,5,6,7,8,9,10,11])],n:=88,pin:=0,nils:=[] }
noncomputable def Zh.fn:D.Fn:={ body:=Tryz.f5.body.getD .skip,res:=Tryz.f5.results.toList,ins:=[.one (.v (.sl 5 (.int .u8)))],outs:=[.agg [.v (.sl 27 (.sl 2 (.int .i64)))],.agg [.v (.int .i64),.v (.sl 2 (.int .i64))],.agg [.v (.int .i64),.v (.sl 2 (.int .i64))],.agg [.v (.int .i64),.own 2 true (.int .i64)],.agg [.v (.int .i64),.own 2 true (.int .i64)]] }
def Zh.enc (y:lsd (flats Zh.fn.outs)×lsd (ios Zh.fn.ins)):(List (List Int))×Int×(List Int)×Int×(List Int)×Int×(List Int)×Int×(List Int):=(y.1.1,y.1.2.1,y.1.2.2.1,y.1.2.2.2.1,y.1.2.2.2.2.1,y.1.2.2.2.2.2.1,y.1.2.2.2.2.2.2.1,y.1.2.2.2.2.2.2.2.1,y.1.2.2.2.2.2.2.2.2.1)
noncomputable def Zh.f (l0:List Int):Option ((List (List Int))×Int×(List Int)×Int×(List Int)×Int×(List Int)×Int×(List Int)):=denF Zh.E Zh.fn Zh.enc (l0,())
noncomputable def Zh.l0 (x12:Int) (b1_0:Int) (b2_0:Int) (b3_0:Int) (b4_0:Int) (b5_0:List Int) (b5_1:Int) (b5_2:Int) (b6_0:List (List Int)) (b7_0:Int) (b7_1:List Int) (b8_0:Int) (b8_1:List Int) (b9_0:Int) (r10:List Int):Option ((List (List Int))×Int×(List Int)×Int×(List Int)×Int×(List Int)×Int×(List Int)):=denAt Zh.E Zh.fn Zh.enc [1,1,1,1,0,1,0,1,1,0,1,1,0] { fr:=[(2,.lf (.box 0 0)),(3,.lf (.box 1 0)),(4,.lf (.box 2 0)),(5,.lf (.box 3 0)),(6,.lf (.box 4 0)),(7,.lf (.box 5 0)),(8,.lf (.box 6 0)),(9,.lf (.box 7 0)),(10,.lf (.box 8 0)),(11,.lf (.box 9 0)),(12,.lf (.int .i64 x12))],ob:=[(0,.box 26 false [.nil]),(1,.box 29 false [.int .i64 b1_0,.nil]),(2,.box 29 false [.int .i64 b2_0,.nil]),(3,.box 31 false [.int .i64 b3_0,.nil]),(4,.box 31 false [.int .i64 b4_0,.nil]),(5,.box 102 false [.sl (.int .u8) b5_0,.int .i64 b5_1,.int .u64 b5_2]),(6,.box 26 false [.sl (.sl 2 (.int .i64)) b6_0]),(7,.box 29 false [.int .i64 b7_0,.sl (.int .i64) b7_1]),(8,.box 31 false [.int .i64 b8_0,.sl (.int .i64) b8_1]),(9,.box 29 false [.int .i64 b9_0,.own 10]),(10,.row 2 true (.int .i64) r10)],nx:=11 }
theorem Zh.f_eq (l0:List Int):Zh.f l0=(Zaa.f l0).bind fun t15=>(Zao.f t15.1 t15.2.1 t15.2.2).bind fun t18=>(Zr.f t18.2.2.2.2.2.1 t18.2.2.2.2.2.2.1 t18.2.2.2.2.2.2.2 3).bind fun t24=>if t24.1=0 then((Za2.f t24.2.1 t24.2.2.1 t24.2.2.2).bind fun t29=>(ZaR.f t29.2.1 t29.2.2.1 t29.2.2.2 t18.1 t29.1).bind fun t30=>if t30.1=t18.2.1 then(if t18.2.2.2.1=3 then((Zr.f t30.2.2.1 t30.2.2.2.1 t30.2.2.2.2 2).bind fun t61=>if t61.1=0 then((Zu.f fuel t61.2.1 t61.2.2.1 t61.2.2.2 t18.1 t18.2.1 t18.2.2.1 1).bind fun t67=>(ZF.f t67.2.2.1 t67.2.2.2.1 t67.2.2.2.2 ([0,1,1,2]:List Int)).bind fun t73=>(Zu.f fuel t73.2.1 t73.2.2.1 t73.2.2.2 t18.1 t30.1 t30.2.1 t73.1).bind fun t74=>(ZV.f t74.2.2.1 t74.2.2.2.1 t74.2.2.2.2 t18.1).bind fun t77=>(ZM.f t77.2.1 t77.2.2.1 t77.2.2.2 t18.2.1 t18.2.2.1 t67.1 t67.2.1).bind fun t83=>(ZM.f t83.2.2.1 t83.2.2.2.1 t83.2.2.2.2 t30.1 t30.2.1 t74.1 t74.2.1).bind fun t87=>some (t77.1,t18.2.1,t18.2.2.1,t30.1,t30.2.1,t83.1,t83.2.1,t87.1,t87.2.1))else((ZF.f t61.2.1 t61.2.2.1 t61.2.2.2 ([0,1,1,2]:List Int)).bind fun t73=>(Zu.f fuel t73.2.1 t73.2.2.1 t73.2.2.2 t18.1 t30.1 t30.2.1 t73.1).bind fun t74=>(ZV.f t74.2.2.1 t74.2.2.2.1 t74.2.2.2.2 t18.1).bind fun t77=>(ZM.f t77.2.1 t77.2.2.1 t77.2.2.2 t18.2.1 t18.2.2.1 t18.2.2.2.1 t18.2.2.2.2.1).bind fun t83=>(ZM.f t83.2.2.1 t83.2.2.2.1 t83.2.2.2.2 t30.1 t30.2.1 t74.1 t74.2.1).bind fun t87=>some (t77.1,t18.2.1,t18.2.2.1,t30.1,t30.2.1,t83.1,t83.2.1,t87.1,t87.2.1)))else((ZF.f t30.2.2.1 t30.2.2.2.1 t30.2.2.2.2 ([0,1,1,2]:List Int)).bind fun t73=>(Zu.f fuel t73.2.1 t73.2.2.1 t73.2.2.2 t18.1 t30.1 t30.2.1 t73.1).bind fun t74=>(ZV.f t74.2.2.1 t74.2.2.2.1 t74.2.2.2.2 t18.1).bind fun t77=>(ZM.f t77.2.1 t77.2.2.1 t77.2.2.2 t18.2.1 t18.2.2.1 t18.2.2.2.1 t18.2.2.2.2.1).bind fun t83=>(ZM.f t83.2.2.1 t83.2.2.2.1 t83.2.2.2.2 t30.1 t30.2.1 t74.1 t74.2.1).bind fun t87=>some (t77.1,t18.2.1,t18.2.2.1,t30.1,t30.2.1,t83.1,t83.2.1,t87.1,t87.2.1)))else((Zr.f t30.2.2.1 t30.2.2.2.1 t30.2.2.2.2 4).bind fun t38=>if t38.1 > 0 then(Zh.l0 0 0 0 0 0 t38.2.1 t38.2.2.1 t38.2.2.2 t18.1 t18.2.1 t18.2.2.1 t18.2.2.2.1 t18.2.2.2.2.1 t18.2.1 ([]:List Int))else(if t18.2.2.2.1=3 then((Zr.f t38.2.1 t38.2.2.1 t38.2.2.2 2).bind fun t61=>if t61.1=0 then((Zu.f fuel t61.2.1 t61.2.2.1 t61.2.2.2 t18.1 t18.2.1 t18.2.2.1 1).bind fun t67=>(ZF.f t67.2.2.1 t67.2.2.2.1 t67.2.2.2.2 ([0,1,1,2]:List Int)).bind fun t73=>(Zu.f fuel t73.2.1 t73.2.2.1 t73.2.2.2 t18.1 t30.1 t30.2.1 t73.1).bind fun t74=>(ZV.f t74.2.2.1 t74.2.2.2.1 t74.2.2.2.2 t18.1).bind fun t77=>(ZM.f t77.2.1 t77.2.2.1 t77.2.2.2 t18.2.1 t18.2.2.1 t67.1 t67.2.1).bind fun t83=>(ZM.f t83.2.2.1 t83.2.2.2.1 t83.2.2.2.2 t30.1 t30.2.1 t74.1 t74.2.1).bind fun t87=>some (t77.1,t18.2.1,t18.2.2.1,t30.1,t30.2.1,t83.1,t83.2.1,t87.1,t87.2.1))else((ZF.f t61.2.1 t61.2.2.1 t61.2.2.2 ([0,1,1,2]:List Int)).bind fun t73=>(Zu.f fuel t73.2.1 t73.2.2.1 t73.2.2.2 t18.1 t30.1 t30.2.1 t73.1).bind fun t74=>(ZV.f t74.2.2.1 t74.2.2.2.1 t74.2.2.2.2 t18.1).bind fun t77=>(ZM.f t77.2.1 t77.2.2.1 t77.2.2.2 t18.2.1 t18.2.2.1 t18.2.2.2.1 t18.2.2.2.2.1).bind fun t83=>(ZM.f t83.2.2.1 t83.2.2.2.1 t83.2.2.2.2 t30.1 t30.2.1 t74.1 t74.2.1).bind fun t87=>some (t77.1,t18.2.1,t18.2.2.1,t30.1,t30.2.1,t83.1,t83.2.1,t87.1,t87.2.1)))else((ZF.f t38.2.1 t38.2.2.1 t38.2.2.2 ([0,1,1,2]:List Int)).bind fun t73=>(Zu.f fuel t73.2.1 t73.2.2.1 t73.2.2.2 t18.1 t30.1 t30.2.1 t73.1).bind fun t74=>(ZV.f t74.2.2.1 t74.2.2.2.1 t74.2.2.2.2 t18.1).bind fun t77=>(ZM.f t77.2.1 t77.2.2.1 t77.2.2.2 t18.2.1 t18.2.2.1 t18.2.2.2.1 t18.2.2.2.2.1).bind fun t83=>(ZM.f t83.2.2.1 t83.2.2.2.1 t83.2.2.2.2 t30.1 t30.2.1 t74.1 t74.2.1).bind fun t87=>some (t77.1,t18.2.1,t18.2.2.1,t30.1,t30.2.1,t83.1,t83.2.1,t87.1,t87.2.1)))))else(if t18.2.2.2.1=3 then((Zr.f t24.2.1 t24.2.2.1 t24.2.2.2 2).bind fun t61=>if t61.1=0 then((Zu.f fuel t61.2.1 t61.2.2.1 t61.2.2.2 t18.1 t18.2.1 t18.2.2.1 1).bind fun t67=>(ZF.f t67.2.2.1 t67.2.2.2.1 t67.2.2.2.2 ([0,1,1,2]:List Int)).bind fun t73=>(Zu.f fuel t73.2.1 t73.2.2.1 t73.2.2.2 t18.1 t18.2.1 t18.2.2.1 t73.1).bind fun t74=>(ZV.f t74.2.2.1 t74.2.2.2.1 t74.2.2.2.2 t18.1).bind fun t77=>(ZM.f t77.2.1 t77.2.2.1 t77.2.2.2 t18.2.1 t18.2.2.1 t67.1 t67.2.1).bind fun t83=>(ZM.f t83.2.2.1 t83.2.2.2.1 t83.2.2.2.2 t18.2.1 t18.2.2.1 t74.1 t74.2.1).bind fun t87=>some (t77.1,t18.2.1,t18.2.2.1,t18.2.1,t18.2.2.1,t83.1,t83.2.1,t87.1,t87.2.1))else((ZF.f t61.2.1 t61.2.2.1 t61.2.2.2 ([0,1,1,2]:List Int)).bind fun t73=>(Zu.f fuel t73.2.1 t73.2.2.1 t73.2.2.2 t18.1 t18.2.1 t18.2.2.1 t73.1).bind fun t74=>(ZV.f t74.2.2.1 t74.2.2.2.1 t74.2.2.2.2 t18.1).bind fun t77=>(ZM.f t77.2.1 t77.2.2.1 t77.2.2.2 t18.2.1 t18.2.2.1 t18.2.2.2.1 t18.2.2.2.2.1).bind fun t83=>(ZM.f t83.2.2.1 t83.2.2.2.1 t83.2.2.2.2 t18.2.1 t18.2.2.1 t74.1 t74.2.1).bind fun t87=>some (t77.1,t18.2.1,t18.2.2.1,t18.2.1,t18.2.2.1,t83.1,t83.2.1,t87.1,t87.2.1)))else((ZF.f t24.2.1 t24.2.2.1 t24.2.2.2 ([0,1,1,2]:List Int)).bind fun t73=>(Zu.f fuel t73.2.1 t73.2.2.1 t73.2.2.2 t18.1 t18.2.1 t18.2.2.1 t73.1).bind fun t74=>(ZV.f t74.2.2.1 t74.2.2.2.1 t74.2.2.2.2 t18.1).bind fun t77=>(ZM.f t77.2.1 t77.2.2.1 t77.2.2.2 t18.2.1 t18.2.2.1 t18.2.2.2.1 t18.2.2.2.2.1).bind fun t83=>(ZM.f t83.2.2.1 t83.2.2.2.1 t83.2.2.2.2 t18.2.1 t18.2.2.1 t74.1 t74.2.1).bind fun t87=>some (t77.1,t18.2.1,t18.2.2.1,t18.2.1,t18.2.2.1,t83.1,t83.2.1,t87.1,t87.2.1))):=by kernel_rfl
theorem Zh.l0_eq (x12:Int) (b1_0:Int) (b2_0:Int) (b3_0:Int) (b4_0:Int) (b5_0:List Int) (b5_1:Int) (b5_2:Int) (b6_0:List (List Int)) (b7_0:Int) (b7_1:List Int) (b8_0:Int) (b8_1:List Int) (b9_0:Int) (r10:List Int):Zh.l0 x12 b1_0 b2_0 b3_0 b4_0 b5_0 b5_1 b5_2 b6_0 b7_0 b7_1 b8_0 b8_1 b9_0 r10=(Zp.f b6_0).bind fun t47=>if x12 < t47 then(if r10.length+([1]:List Int).length≤17592186044416 then(Zh.l0 (wrapI (x12+1)) b1_0 b2_0 b3_0 b4_0 b5_0 b5_1 b5_2 b6_0 b7_0 b7_1 b8_0 b8_1 b9_0 (r10++([1]:List Int)))else none)else(if b8_0=3 then((Zr.f b5_0 b5_1 b5_2 2).bind fun t61=>if t61.1=0 then((Zu.f fuel t61.2.1 t61.2.2.1 t61.2.2.2 b6_0 b7_0 b7_1 1).bind fun t67=>(ZF.f t67.2.2.1 t67.2.2.2.1 t67.2.2.2.2 ([0,1,1,2]:List Int)).bind fun t73=>(Zu.f fuel t73.2.1 t73.2.2.1 t73.2.2.2 b6_0 b9_0 r10 t73.1).bind fun t74=>(ZV.f t74.2.2.1 t74.2.2.2.1 t74.2.2.2.2 b6_0).bind fun t77=>(ZM.f t77.2.1 t77.2.2.1 t77.2.2.2 b7_0 b7_1 t67.1 t67.2.1).bind fun t83=>(ZM.f t83.2.2.1 t83.2.2.2.1 t83.2.2.2.2 b9_0 r10 t74.1 t74.2.1).bind fun t87=>some (t77.1,b7_0,b7_1,b9_0,r10,t83.1,t83.2.1,t87.1,t87.2.1))else((ZF.f t61.2.1 t61.2.2.1 t61.2.2.2 ([0,1,1,2]:List Int)).bind fun t73=>(Zu.f fuel t73.2.1 t73.2.2.1 t73.2.2.2 b6_0 b9_0 r10 t73.1).bind fun t74=>(ZV.f t74.2.2.1 t74.2.2.2.1 t74.2.2.2.2 b6_0).bind fun t77=>(ZM.f t77.2.1 t77.2.2.1 t77.2.2.2 b7_0 b7_1 b8_0 b8_1).bind fun t83=>(ZM.f t83.2.2.1 t83.2.2.2.1 t83.2.2.2.2 b9_0 r10 t74.1 t74.2.1).bind fun t87=>some (t77.1,b7_0,b7_1,b9_0,r10,t83.1,t83.2.1,t87.1,t87.2.1)))else((ZF.f b5_0 b5_1 b5_2 ([0,1,1,2]:List Int)).bind fun t73=>(Zu.f fuel t73.2.1 t73.2.2.1 t73.2.2.2 b6_0 b9_0 r10 t73.1).bind fun t74=>(ZV.f t74.2.2.1 t74.2.2.2.1 t74.2.2.2.2 b6_0).bind fun t77=>(ZM.f t77.2.1 t77.2.2.1 t77.2.2.2 b7_0 b7_1 b8_0 b8_1).bind fun t83=>(ZM.f t83.2.2.1 t83.2.2.2.1 t83.2.2.2.2 b9_0 r10 t74.1 t74.2.1).bind fun t87=>some (t77.1,b7_0,b7_1,b9_0,r10,t83.1,t83.2.1,t87.1,t87.2.1))):=(Zy _ _ _ _).trans (by kernel_rfl)
noncomputable def Zh.con:Con:=⟨Zh.fn.ins,Zh.fn.outs,(List (List Int))×Int×(List Int)×Int×(List Int)×Int×(List Int)×Int×(List Int),fun x=>Zh.f x.1,fun r=>((r.1,r.2.1,r.2.2.1,r.2.2.2.1,r.2.2.2.2.1,r.2.2.2.2.2.1,r.2.2.2.2.2.2.1,r.2.2.2.2.2.2.2.1,r.2.2.2.2.2.2.2.2,()),(()))⟩
theorem Zh.valid:Valid Tryz.prog 5 Zh.con:=fnV Zh.fn Zh.E Zh.enc ⟨ttOk,(Zf Zaa.valid (Zf Zao.valid (Zf Zr.valid (Zf Za2.valid (Zf ZaR.valid (Zf Zu.valid (Zf ZF.valid (Zf ZV.valid (Zf ZM.valid (Zf Zp.valid Zaq))))))))))⟩ Tryz.func5
end Go.Proofs.YtoljodiflhbohaaGreatDoor.P
namespace Go.Proofs.YtoljodiflhbohaaGreatDoor.P
open Go Go.RowKit Go.Proofs.YtoljodiflhbohaaGreatDoor.D
noncomputable def ZaH.E:Env:={ tt:=TT,con:=[],frz:=[],rows:=[],live:=[(2,[0,7,8,9])],n:=21,pin:=0,nils:=[] }
noncomputable def ZaH.fn:D.Fn:={ body:=Tryz.f60.body.getD .skip,res:=Tryz.f60.results.toList,ins:=[.one (.v (.int .i64)),.one (.v (.sl 2 (.int .i64)))],outs:=[.one (.v .bool)] }
def ZaH.enc (y:lsd (flats ZaH.fn.outs)×lsd (ios ZaH.fn.ins)):Bool:=y.1.1
noncomputable def ZaH.f (a0:Int) (l1:List Int):Option Bool:=denF ZaH.E ZaH.fn ZaH.enc (a0,l1,())
noncomputable def ZaH.l0 (x0:Int) (x7:List Int) (x8:Int) (x9:Int):Option Bool:=denAt ZaH.E ZaH.fn ZaH.enc [1,0,1,0] { fr:=[(0,.lf (.int .i64 x0)),(7,.lf (.sl (.int .i64) x7)),(8,.lf (.int .i64 x8)),(9,.lf (.int .i64 x9))],ob:=[],nx:=0 }
theorem ZaH.f_eq (a0:Int) (l1:List Int):ZaH.f a0 l1=ZaH.l0 a0 l1 (l1.length:Int) 0:=by kernel_rfl
theorem ZaH.l0_eq (x0:Int) (x7:List Int) (x8:Int) (x9:Int):ZaH.l0 x0 x7 x8 x9=if x9 < x8 then(if 0≤x9 then(if x9 < (x7.length:Int)then(if(rd x7 x9) < 0 then(some false)else(if(rd x7 x9)≥x0 then(some false)else(ZaH.l0 x0 x7 x8 (wrapI (x9+1)))))else none)else none)else(some true):=(Zy _ _ _ _).trans (by kernel_rfl)
noncomputable def ZaH.con:Con:=⟨ZaH.fn.ins,ZaH.fn.outs,Bool,fun x=>ZaH.f x.1 x.2.1,fun r=>((r,()),(()))⟩
theorem ZaH.valid:Valid Tryz.prog 60 ZaH.con:=fnV ZaH.fn ZaH.E ZaH.enc ⟨ttOk,Zaq⟩ Tryz.func60
end Go.Proofs.YtoljodiflhbohaaGreatDoor.P
namespace Go.Proofs.YtoljodiflhbohaaGreatDoor.P
open Go Go.RowKit Go.Proofs.YtoljodiflhbohaaGreatDoor.D
noncomputable def ZX.E:Env:={ tt:=TT,con:=[],frz:=[],rows:=[],live:=[],n:=6,pin:=0,nils:=[] }
noncomputable def ZX.fn:D.Fn:={ body:=Tryz.f61.body.getD .skip,res:=Tryz.f61.results.toList,ins:=[.agg [.v (.sl 27 (.sl 2 (.int .i64)))]],outs:=[.one (.v (.int .i64))] }
def ZX.enc (y:lsd (flats ZX.fn.outs)×lsd (ios ZX.fn.ins)):Int:=y.1.1
noncomputable def ZX.f (l0_0:List (List Int)):Option Int:=denF ZX.E ZX.fn ZX.enc (l0_0,())
theorem ZX.f_eq (l0_0:List (List Int)):ZX.f l0_0=some (l0_0.length:Int):=by kernel_rfl
noncomputable def ZX.con:Con:=⟨ZX.fn.ins,ZX.fn.outs,Int,fun x=>ZX.f x.1,fun r=>((r,()),(()))⟩
theorem ZX.valid:Valid Tryz.prog 61 ZX.con:=fnV ZX.fn ZX.E ZX.enc ⟨ttOk,Zaq⟩ Tryz.func61
end Go.Proofs.YtoljodiflhbohaaGreatDoor.P
namespace Go.Proofs.YtoljodiflhbohaaGreatDoor.P
open Go Go.RowKit Go.Proofs.YtoljodiflhbohaaGreatDoor.D
noncomputable def Zv.E:Env:={ tt:=TT,con:=[],frz:=[],rows:=[],live:=[(2,[0,1,7,8])],n:=19,pin:=0,nils:=[] }
noncomputable def Zv.fn:D.Fn:={ body:=Tryz.f103.body.getD .skip,res:=Tryz.f103.results.toList,ins:=[.one (.v (.sl 2 (.int .i64))),.one (.v (.int .i64))],outs:=[.one (.v (.int .i64))] }
def Zv.enc (y:lsd (flats Zv.fn.outs)×lsd (ios Zv.fn.ins)):Int:=y.1.1
noncomputable def Zv.f (l0:List Int) (a1:Int):Option Int:=denF Zv.E Zv.fn Zv.enc (l0,a1,())
noncomputable def Zv.l0 (x0:List Int) (x1:Int) (x7:Int) (x8:Int):Option Int:=denAt Zv.E Zv.fn Zv.enc [1,0,1,0] { fr:=[(0,.lf (.sl (.int .i64) x0)),(1,.lf (.int .i64 x1)),(7,.lf (.int .i64 x7)),(8,.lf (.int .i64 x8))],ob:=[],nx:=0 }
theorem Zv.f_eq (l0:List Int) (a1:Int):Zv.f l0 a1=Zv.l0 l0 a1 (l0.length:Int) 0:=by kernel_rfl
theorem Zv.l0_eq (x0:List Int) (x1:Int) (x7:Int) (x8:Int):Zv.l0 x0 x1 x7 x8=if x8 < x7 then(if 0≤x8 then(if x8 < (x0.length:Int)then(if x1=(rd x0 x8)then(some x8)else(Zv.l0 x0 x1 x7 (wrapI (x8+1))))else none)else none)else(some (-1)):=(Zy _ _ _ _).trans (by kernel_rfl)
noncomputable def Zv.con:Con:=⟨Zv.fn.ins,Zv.fn.outs,Int,fun x=>Zv.f x.1 x.2.1,fun r=>((r,()),(()))⟩
theorem Zv.valid:Valid Tryz.prog 103 Zv.con:=fnV Zv.fn Zv.E Zv.enc ⟨ttOk,Zaq⟩ Tryz.func103
end Go.Proofs.YtoljodiflhbohaaGreatDoor.P
namespace Go.Proofs.YtoljodiflhbohaaGreatDoor.P
open Go Go.RowKit Go.Proofs.YtoljodiflhbohaaGreatDoor.D
noncomputable def Z5.E:Env:={ tt:=TT,con:=[(103,Zv.con)],frz:=[],rows:=[],live:=[],n:=9,pin:=0,nils:=[] }
noncomputable def Z5.fn:D.Fn:={ body:=Tryz.f114.body.getD .skip,res:=Tryz.f114.results.toList,ins:=[.one (.v (.sl 2 (.int .i64))),.one (.v (.int .i64))],outs:=[.one (.v .bool)] }
def Z5.enc (y:lsd (flats Z5.fn.outs)×lsd (ios Z5.fn.ins)):Bool:=y.1.1
noncomputable def Z5.f (l0:List Int) (a1:Int):Option Bool:=denF Z5.E Z5.fn Z5.enc (l0,a1,())
theorem Z5.f_eq (l0:List Int) (a1:Int):Z5.f l0 a1=(Zv.f l0 a1).bind fun t7=>some (decide (t7≥0)):=by kernel_rfl
noncomputable def Z5.con:Con:=⟨Z5.fn.ins,Z5.fn.outs,Bool,fun x=>Z5.f x.1 x.2.1,fun r=>((r,()),(()))⟩
theorem Z5.valid:Valid Tryz.prog 114 Z5.con:=fnV Z5.fn Z5.E Z5.enc ⟨ttOk,(Zf Zv.valid Zaq)⟩ Tryz.func114
end Go.Proofs.YtoljodiflhbohaaGreatDoor.P
namespace Go.Proofs.YtoljodiflhbohaaGreatDoor.P
open Go Go.RowKit Go.Proofs.YtoljodiflhbohaaGreatDoor.D
noncomputable def Zq.E:Env:={ tt:=TT,con:=[(61,ZX.con),(60,ZaH.con),(114,Z5.con)],frz:=[],rows:=[],live:=[(5,[1,3,18,19,20]),(11,[1,3,35,36]),(16,[1,3,6,35,36,68,69]),(19,[1,3,6,7,35,36,68,69,72,73])],n:=110,pin:=0,nils:=[] }
noncomputable def Zq.fn:D.Fn:={ body:=Tryz.f83.body.getD .skip,res:=Tryz.f83.results.toList,ins:=[.agg [.v (.sl 27 (.sl 2 (.int .i64)))]],outs:=[.one (.v .bool)] }
def Zq.enc (y:lsd (flats Zq.fn.outs)×lsd (ios Zq.fn.ins)):Bool:=y.1.1
noncomputable def Zq.f (l0_0:List (List Int)):Option Bool:=denF Zq.E Zq.fn Zq.enc (l0_0,())
noncomputable def Zq.l0 (x3:Int) (x18:List (List Int)) (x19:Int) (x20:Int) (b0_0:List (List Int)):Option Bool:=denAt Zq.E Zq.fn Zq.enc [1,1,1,0,1,0] { fr:=[(1,.lf (.box 0 0)),(3,.lf (.int .i64 x3)),(18,.lf (.sl (.sl 2 (.int .i64)) x18)),(19,.lf (.int .i64 x19)),(20,.lf (.int .i64 x20))],ob:=[(0,.box 26 false [.sl (.sl 2 (.int .i64)) b0_0])],nx:=1 }
noncomputable def Zq.l1 (x3:Int) (x35:Int) (x36:Int) (b0_0:List (List Int)):Option Bool:=denAt Zq.E Zq.fn Zq.enc [1,1,1,1,0,1,0] { fr:=[(1,.lf (.box 0 0)),(3,.lf (.int .i64 x3)),(35,.lf (.int .i64 x35)),(36,.lf (.int .i64 x36))],ob:=[(0,.box 26 false [.sl (.sl 2 (.int .i64)) b0_0])],nx:=1 }
noncomputable def Zq.l2 (x3:Int) (x6:Int) (x35:Int) (x36:Int) (x68:Int) (x69:Int) (b0_0:List (List Int)):Option Bool:=denAt Zq.E Zq.fn Zq.enc [1,1,1,1,0,1,0,0,1,1,0,0,1,1,1,0] { fr:=[(1,.lf (.box 0 0)),(3,.lf (.int .i64 x3)),(6,.lf (.int .i64 x6)),(35,.lf (.int .i64 x35)),(36,.lf (.int .i64 x36)),(68,.lf (.int .i64 x68)),(69,.lf (.int .i64 x69))],ob:=[(0,.box 26 false [.sl (.sl 2 (.int .i64)) b0_0])],nx:=1 }
noncomputable def Zq.l3 (x3:Int) (x6:Int) (x7:Int) (x35:Int) (x36:Int) (x68:Int) (x69:Int) (x72:Int) (x73:Int) (b0_0:List (List Int)):Option Bool:=denAt Zq.E Zq.fn Zq.enc [1,1,1,1,0,1,0,0,1,1,0,0,1,1,1,0,0,1,1,0,0,1,1,0] { fr:=[(1,.lf (.box 0 0)),(3,.lf (.int .i64 x3)),(6,.lf (.int .i64 x6)),(7,.lf (.int .i64 x7)),(35,.lf (.int .i64 x35)),(36,.lf (.int .i64 x36)),(68,.lf (.int .i64 x68)),(69,.lf (.int .i64 x69)),(72,.lf (.int .i64 x72)),(73,.lf (.int .i64 x73))],ob:=[(0,.box 26 false [.sl (.sl 2 (.int .i64)) b0_0])],nx:=1 }
theorem Zq.f_eq (l0_0:List (List Int)):Zq.f l0_0=(ZX.f l0_0).bind fun t10=>if t10 < 1 then(some false)else(if t10 > 8 then(some false)else(Zq.l0 t10 l0_0 (l0_0.length:Int) 0 l0_0)):=by kernel_rfl
theorem Zq.l0_eq (x3:Int) (x18:List (List Int)) (x19:Int) (x20:Int) (b0_0:List (List Int)):Zq.l0 x3 x18 x19 x20 b0_0=if x20 < x19 then(if 0≤x20 then(if x20 < (x18.length:Int)then(if((row x18 x20).length:Int)=x3 then((ZaH.f x3 (row x18 x20)).bind fun t31=>if t31=true then(Zq.l0 x3 x18 x19 (wrapI (x20+1)) b0_0)else(some false))else(some false))else none)else none)else(Zq.l1 x3 x3 0 b0_0):=(Zy _ _ _ _).trans (by kernel_rfl)
theorem Zq.l1_eq (x3:Int) (x35:Int) (x36:Int) (b0_0:List (List Int)):Zq.l1 x3 x35 x36 b0_0=if x36 < x35 then(if 0 < (b0_0.length:Int)then(if 0≤x36 then(if x36 < ((row b0_0 0).length:Int)then(if(T b0_0 0 x36)=x36 then(if 0≤x36 then(if x36 < (b0_0.length:Int)then(if 0 < ((row b0_0 x36).length:Int)then(if(T b0_0 x36 0)=x36 then(if 0≤x36 then(if x36 < (b0_0.length:Int)then((Z5.f (row b0_0 x36) 0).bind fun t65=>if t65=true then(Zq.l2 x3 x36 x35 x36 x3 0 b0_0)else(some false))else none)else none)else(some false))else none)else none)else none)else(some false))else none)else none)else none)else(some true):=(Zy _ _ _ _).trans (by kernel_rfl)
theorem Zq.l2_eq (x3:Int) (x6:Int) (x35:Int) (x36:Int) (x68:Int) (x69:Int) (b0_0:List (List Int)):Zq.l2 x3 x6 x35 x36 x68 x69 b0_0=if x69 < x68 then(Zq.l3 x3 x6 x69 x35 x36 x68 x69 x3 0 b0_0)else(Zq.l1 x3 x35 (wrapI (x36+1)) b0_0):=(Zy _ _ _ _).trans (by kernel_rfl)
theorem Zq.l3_eq (x3:Int) (x6:Int) (x7:Int) (x35:Int) (x36:Int) (x68:Int) (x69:Int) (x72:Int) (x73:Int) (b0_0:List (List Int)):Zq.l3 x3 x6 x7 x35 x36 x68 x69 x72 x73 b0_0=if x73 < x72 then(if 0≤x6 then(if x6 < (b0_0.length:Int)then(if 0≤x7 then(if x7 < ((row b0_0 x6).length:Int)then(if 0≤T b0_0 x6 x7 then(if T b0_0 x6 x7 < (b0_0.length:Int)then(if 0≤x73 then(if x73 < ((row b0_0 (T b0_0 x6 x7)).length:Int)then(if 0≤x6 then(if x6 < (b0_0.length:Int)then(if 0≤x7 then(if x7 < (b0_0.length:Int)then(if 0≤x73 then(if x73 < ((row b0_0 x7).length:Int)then(if 0≤T b0_0 x7 x73 then(if T b0_0 x7 x73 < ((row b0_0 x6).length:Int)then(if(T b0_0 (T b0_0 x6 x7) x73)=(T b0_0 x6 (T b0_0 x7 x73))then(Zq.l3 x3 x6 x7 x35 x36 x68 x69 x72 (wrapI (x73+1)) b0_0)else(some false))else none)else none)else none)else none)else none)else none)else none)else none)else none)else none)else none)else none)else none)else none)else none)else none)else(Zq.l2 x3 x6 x35 x36 x68 (wrapI (x69+1)) b0_0):=(Zy _ _ _ _).trans (by kernel_rfl)
noncomputable def Zq.con:Con:=⟨Zq.fn.ins,Zq.fn.outs,Bool,fun x=>Zq.f x.1,fun r=>((r,()),(()))⟩
theorem Zq.valid:Valid Tryz.prog 83 Zq.con:=fnV Zq.fn Zq.E Zq.enc ⟨ttOk,(Zf ZX.valid (Zf ZaH.valid (Zf Z5.valid Zaq)))⟩ Tryz.func83
end Go.Proofs.YtoljodiflhbohaaGreatDoor.P
namespace Go.Proofs.YtoljodiflhbohaaGreatDoor.P
open Go Go.RowKit Go.Proofs.YtoljodiflhbohaaGreatDoor.D
noncomputable def Zl.E:Env:={ tt:=TT,con:=[],frz:=[],rows:=[],live:=[(3,[2,5,8,9,10])],n:=24,pin:=0,nils:=[] }
noncomputable def Zl.fn:D.Fn:={ body:=Tryz.f41.body.getD .skip,res:=Tryz.f41.results.toList,ins:=[.agg [.v (.sl 27 (.sl 2 (.int .i64)))],.one (.v (.sl 2 (.int .i64)))],outs:=[.one (.v (.int .i64))] }
def Zl.enc (y:lsd (flats Zl.fn.outs)×lsd (ios Zl.fn.ins)):Int:=y.1.1
noncomputable def Zl.f (l0_0:List (List Int)) (l1:List Int):Option Int:=denF Zl.E Zl.fn Zl.enc (l0_0,l1,())
noncomputable def Zl.l0 (x5:Int) (x8:List Int) (x9:Int) (x10:Int) (b0_0:List (List Int)):Option Int:=denAt Zl.E Zl.fn Zl.enc [1,1,0,1,0] { fr:=[(2,.lf (.box 0 0)),(5,.lf (.int .i64 x5)),(8,.lf (.sl (.int .i64) x8)),(9,.lf (.int .i64 x9)),(10,.lf (.int .i64 x10))],ob:=[(0,.box 26 false [.sl (.sl 2 (.int .i64)) b0_0])],nx:=1 }
theorem Zl.f_eq (l0_0:List (List Int)) (l1:List Int):Zl.f l0_0 l1=Zl.l0 0 l1 (l1.length:Int) 0 l0_0:=by kernel_rfl
theorem Zl.l0_eq (x5:Int) (x8:List Int) (x9:Int) (x10:Int) (b0_0:List (List Int)):Zl.l0 x5 x8 x9 x10 b0_0=if x10 < x9 then(if 0≤x10 then(if x10 < (x8.length:Int)then(if 0≤x5 then(if x5 < (b0_0.length:Int)then(if 0≤rd x8 x10 then(if rd x8 x10 < ((row b0_0 x5).length:Int)then(Zl.l0 (T b0_0 x5 (rd x8 x10)) x8 x9 (wrapI (x10+1)) b0_0)else none)else none)else none)else none)else none)else none)else(some x5):=(Zy _ _ _ _).trans (by kernel_rfl)
noncomputable def Zl.con:Con:=⟨Zl.fn.ins,Zl.fn.outs,Int,fun x=>Zl.f x.1 x.2.1,fun r=>((r,()),(()))⟩
theorem Zl.valid:Valid Tryz.prog 41 Zl.con:=fnV Zl.fn Zl.E Zl.enc ⟨ttOk,Zaq⟩ Tryz.func41
end Go.Proofs.YtoljodiflhbohaaGreatDoor.P
namespace Go.Proofs.YtoljodiflhbohaaGreatDoor.P
open Go Go.RowKit Go.Proofs.YtoljodiflhbohaaGreatDoor.D
noncomputable def Za4.E:Env:={ tt:=TT,con:=[],frz:=[],rows:=[],live:=[],n:=9,pin:=0,nils:=[] }
noncomputable def Za4.fn:D.Fn:={ body:=Tryz.f115.body.getD .skip,res:=Tryz.f115.results.toList,ins:=[.one (.v (.int .i64))],outs:=[.one (.v .bool)] }
def Za4.enc (y:lsd (flats Za4.fn.outs)×lsd (ios Za4.fn.ins)):Bool:=y.1.1
noncomputable def Za4.f (a0:Int):Option Bool:=denF Za4.E Za4.fn Za4.enc (a0,())
theorem Za4.f_eq (a0:Int):Za4.f a0=if a0≥2 then(some (decide (a0≤12)))else(some false):=by kernel_rfl
noncomputable def Za4.con:Con:=⟨Za4.fn.ins,Za4.fn.outs,Bool,fun x=>Za4.f x.1,fun r=>((r,()),(()))⟩
theorem Za4.valid:Valid Tryz.prog 115 Za4.con:=fnV Za4.fn Za4.E Za4.enc ⟨ttOk,Zaq⟩ Tryz.func115
end Go.Proofs.YtoljodiflhbohaaGreatDoor.P
namespace Go.Proofs.YtoljodiflhbohaaGreatDoor.P
open Go Go.RowKit Go.Proofs.YtoljodiflhbohaaGreatDoor.D
noncomputable def Zbp.E:Env:={ tt:=TT,con:=[],frz:=[],rows:=[],live:=[(1,[0,1])],n:=12,pin:=0,nils:=[] }
noncomputable def Zbp.fn:D.Fn:={ body:=Tryz.f127.body.getD .skip,res:=Tryz.f127.results.toList,ins:=[.one (.v (.int .i64)),.one (.v (.int .i64))],outs:=[.one (.v (.int .i64))] }
def Zbp.enc (y:lsd (flats Zbp.fn.outs)×lsd (ios Zbp.fn.ins)):Int:=y.1.1
noncomputable def Zbp.f (a0:Int) (a1:Int):Option Int:=denF Zbp.E Zbp.fn Zbp.enc (a0,a1,())
noncomputable def Zbp.l0 (x0:Int) (x1:Int):Option Int:=denAt Zbp.E Zbp.fn Zbp.enc [1,0,0] { fr:=[(0,.lf (.int .i64 x0)),(1,.lf (.int .i64 x1))],ob:=[],nx:=0 }
theorem Zbp.f_eq (a0:Int) (a1:Int):Zbp.f a0 a1=Zbp.l0 a0 a1:=by kernel_rfl
theorem Zbp.l0_eq (x0:Int) (x1:Int):Zbp.l0 x0 x1=if x1=0 then(some x0)else(if x1=0 then none else(Zbp.l0 x1 ((x0:Int).tmod x1))):=(Zy _ _ _ _).trans (by kernel_rfl)
noncomputable def Zbp.con:Con:=⟨Zbp.fn.ins,Zbp.fn.outs,Int,fun x=>Zbp.f x.1 x.2.1,fun r=>((r,()),(()))⟩
theorem Zbp.valid:Valid Tryz.prog 127 Zbp.con:=fnV Zbp.fn Zbp.E Zbp.enc ⟨ttOk,Zaq⟩ Tryz.func127
end Go.Proofs.YtoljodiflhbohaaGreatDoor.P
namespace Go.Proofs.YtoljodiflhbohaaGreatDoor.P
open Go Go.RowKit Go.Proofs.YtoljodiflhbohaaGreatDoor.D
noncomputable def Zbj.E:Env:={ tt:=TT,con:=[(127,Zbp.con)],frz:=[],rows:=[],live:=[],n:=18,pin:=0,nils:=[] }
noncomputable def Zbj.fn:D.Fn:={ body:=Tryz.f116.body.getD .skip,res:=Tryz.f116.results.toList,ins:=[.one (.v (.int .i64)),.one (.v (.int .i64))],outs:=[.one (.v .bool)] }
def Zbj.enc (y:lsd (flats Zbj.fn.outs)×lsd (ios Zbj.fn.ins)):Bool:=y.1.1
noncomputable def Zbj.f (a0:Int) (a1:Int):Option Bool:=denF Zbj.E Zbj.fn Zbj.enc (a0,a1,())
theorem Zbj.f_eq (a0:Int) (a1:Int):Zbj.f a0 a1=if a1≥1 then(if a1 < a0 then((Zbp.f a0 a1).bind fun t15=>some (decide (t15=1)))else(some false))else(some false):=by kernel_rfl
noncomputable def Zbj.con:Con:=⟨Zbj.fn.ins,Zbj.fn.outs,Bool,fun x=>Zbj.f x.1 x.2.1,fun r=>((r,()),(()))⟩
theorem Zbj.valid:Valid Tryz.prog 116 Zbj.con:=fnV Zbj.fn Zbj.E Zbj.enc ⟨ttOk,(Zf Zbp.valid Zaq)⟩ Tryz.func116
end Go.Proofs.YtoljodiflhbohaaGreatDoor.P
namespace Go.Proofs.YtoljodiflhbohaaGreatDoor.P
open Go Go.RowKit Go.Proofs.YtoljodiflhbohaaGreatDoor.D
noncomputable def ZC.E:Env:={ tt:=TT,con:=[(115,Za4.con),(61,ZX.con),(116,Zbj.con),(41,Zl.con)],frz:=[],rows:=[],live:=[(4,[2,3,29,30,31]),(10,[2,3,42,43]),(13,[2,3,7,42,43,47,48])],n:=77,pin:=0,nils:=[] }
noncomputable def ZC.fn:D.Fn:={ body:=Tryz.f84.body.getD .skip,res:=Tryz.f84.results.toList,ins:=[.agg [.v (.sl 27 (.sl 2 (.int .i64)))],.agg [.v (.int .i64),.v (.sl 2 (.int .i64))]],outs:=[.one (.v .bool)] }
def ZC.enc (y:lsd (flats ZC.fn.outs)×lsd (ios ZC.fn.ins)):Bool:=y.1.1
noncomputable def ZC.f (l0_0:List (List Int)) (a1_0:Int) (l1_1:List Int):Option Bool:=denF ZC.E ZC.fn ZC.enc (l0_0,a1_0,l1_1,())
noncomputable def ZC.l0 (x29:List Int) (x30:Int) (x31:Int) (b0_0:List (List Int)) (b1_0:Int) (b1_1:List Int):Option Bool:=denAt ZC.E ZC.fn ZC.enc [1,1,0,1,0] { fr:=[(2,.lf (.box 0 0)),(3,.lf (.box 1 0)),(29,.lf (.sl (.int .i64) x29)),(30,.lf (.int .i64 x30)),(31,.lf (.int .i64 x31))],ob:=[(0,.box 26 false [.sl (.sl 2 (.int .i64)) b0_0]),(1,.box 29 false [.int .i64 b1_0,.sl (.int .i64) b1_1])],nx:=2 }
noncomputable def ZC.l1 (x42:Int) (x43:Int) (b0_0:List (List Int)) (b1_0:Int) (b1_1:List Int):Option Bool:=denAt ZC.E ZC.fn ZC.enc [1,1,1,0,1,0] { fr:=[(2,.lf (.box 0 0)),(3,.lf (.box 1 0)),(42,.lf (.int .i64 x42)),(43,.lf (.int .i64 x43))],ob:=[(0,.box 26 false [.sl (.sl 2 (.int .i64)) b0_0]),(1,.box 29 false [.int .i64 b1_0,.sl (.int .i64) b1_1])],nx:=2 }
noncomputable def ZC.l2 (x7:Int) (x42:Int) (x43:Int) (x47:Int) (x48:Int) (b0_0:List (List Int)) (b1_0:Int) (b1_1:List Int):Option Bool:=denAt ZC.E ZC.fn ZC.enc [1,1,1,0,1,0,0,1,1,0,0,1,1,0] { fr:=[(2,.lf (.box 0 0)),(3,.lf (.box 1 0)),(7,.lf (.int .i64 x7)),(42,.lf (.int .i64 x42)),(43,.lf (.int .i64 x43)),(47,.lf (.int .i64 x47)),(48,.lf (.int .i64 x48))],ob:=[(0,.box 26 false [.sl (.sl 2 (.int .i64)) b0_0]),(1,.box 29 false [.int .i64 b1_0,.sl (.int .i64) b1_1])],nx:=2 }
theorem ZC.f_eq (l0_0:List (List Int)) (a1_0:Int) (l1_1:List Int):ZC.f l0_0 a1_0 l1_1=(Za4.f a1_0).bind fun t11=>if t11=true then((ZX.f l0_0).bind fun t18=>if(l1_1.length:Int)=t18 then(if 0 < (l1_1.length:Int)then(if(rd l1_1 0)=1 then(ZC.l0 l1_1 (l1_1.length:Int) 0 l0_0 a1_0 l1_1)else(some false))else none)else(some false))else(some false):=by kernel_rfl
theorem ZC.l0_eq (x29:List Int) (x30:Int) (x31:Int) (b0_0:List (List Int)) (b1_0:Int) (b1_1:List Int):ZC.l0 x29 x30 x31 b0_0 b1_0 b1_1=if x31 < x30 then(if 0≤x31 then(if x31 < (x29.length:Int)then((Zbj.f b1_0 (rd x29 x31)).bind fun t38=>if t38=true then(ZC.l0 x29 x30 (wrapI (x31+1)) b0_0 b1_0 b1_1)else(some false))else none)else none)else((ZX.f b0_0).bind fun t42=>ZC.l1 t42 0 b0_0 b1_0 b1_1):=(Zy _ _ _ _).trans (by kernel_rfl)
theorem ZC.l1_eq (x42:Int) (x43:Int) (b0_0:List (List Int)) (b1_0:Int) (b1_1:List Int):ZC.l1 x42 x43 b0_0 b1_0 b1_1=if x43 < x42 then((ZX.f b0_0).bind fun t47=>ZC.l2 x43 x42 x43 t47 0 b0_0 b1_0 b1_1)else(some true):=(Zy _ _ _ _).trans (by kernel_rfl)
theorem ZC.l2_eq (x7:Int) (x42:Int) (x43:Int) (x47:Int) (x48:Int) (b0_0:List (List Int)) (b1_0:Int) (b1_1:List Int):ZC.l2 x7 x42 x43 x47 x48 b0_0 b1_0 b1_1=if x48 < x47 then((Zl.f b0_0 ([x7,x48]:List Int)).bind fun t57=>if 0≤t57 then(if t57 < (b1_1.length:Int)then(if 0≤x7 then(if x7 < (b1_1.length:Int)then(if 0≤x48 then(if x48 < (b1_1.length:Int)then(if b1_0=0 then none else(if(rd b1_1 t57)=((wrapI ((rd b1_1 x7)*(rd b1_1 x48)):Int).tmod b1_0)then(ZC.l2 x7 x42 x43 x47 (wrapI (x48+1)) b0_0 b1_0 b1_1)else(some false)))else none)else none)else none)else none)else none)else none)else(ZC.l1 x42 (wrapI (x43+1)) b0_0 b1_0 b1_1):=(Zy _ _ _ _).trans (by kernel_rfl)
noncomputable def ZC.con:Con:=⟨ZC.fn.ins,ZC.fn.outs,Bool,fun x=>ZC.f x.1 x.2.1 x.2.2.1,fun r=>((r,()),(()))⟩
theorem ZC.valid:Valid Tryz.prog 84 ZC.con:=fnV ZC.fn ZC.E ZC.enc ⟨ttOk,(Zf Za4.valid (Zf ZX.valid (Zf Zbj.valid (Zf Zl.valid Zaq))))⟩ Tryz.func84
end Go.Proofs.YtoljodiflhbohaaGreatDoor.P
namespace Go.Proofs.YtoljodiflhbohaaGreatDoor.P
open Go Go.RowKit Go.Proofs.YtoljodiflhbohaaGreatDoor.D
noncomputable def ZA.E:Env:={ tt:=TT,con:=[(83,Zq.con),(84,ZC.con)],frz:=[],rows:=[],live:=[(2,[2,7,8,9])],n:=23,pin:=0,nils:=[] }
noncomputable def ZA.fn:D.Fn:={ body:=Tryz.f36.body.getD .skip,res:=Tryz.f36.results.toList,ins:=[.agg [.v (.sl 27 (.sl 2 (.int .i64)))],.one (.v (.sl 29 (.pr (.int .i64) (.sl 2 (.int .i64)))))],outs:=[.one (.v .bool)] }
def ZA.enc (y:lsd (flats ZA.fn.outs)×lsd (ios ZA.fn.ins)):Bool:=y.1.1
noncomputable def ZA.f (l0_0:List (List Int)) (l1:List (Int×(List Int))):Option Bool:=denF ZA.E ZA.fn ZA.enc (l0_0,l1,())
noncomputable def ZA.l0 (x7:List (Int×(List Int))) (x8:Int) (x9:Int) (b0_0:List (List Int)):Option Bool:=denAt ZA.E ZA.fn ZA.enc [1,0,1,0] { fr:=[(2,.lf (.box 0 0)),(7,.lf (.sl (.pr (.int .i64) (.sl 2 (.int .i64))) x7)),(8,.lf (.int .i64 x8)),(9,.lf (.int .i64 x9))],ob:=[(0,.box 26 false [.sl (.sl 2 (.int .i64)) b0_0])],nx:=1 }
theorem ZA.f_eq (l0_0:List (List Int)) (l1:List (Int×(List Int))):ZA.f l0_0 l1=ZA.l0 l1 (l1.length:Int) 0 l0_0:=by kernel_rfl
theorem ZA.l0_eq (x7:List (Int×(List Int))) (x8:Int) (x9:Int) (b0_0:List (List Int)):ZA.l0 x7 x8 x9 b0_0=if x9 < x8 then(if 0≤x9 then(if x9 < (x7.length:Int)then((Zq.f b0_0).bind fun t14=>if t14=true then((ZC.f b0_0 ((Ty.rd (.pr (.int .i64) (.sl 2 (.int .i64))) x7 x9).1) ((Ty.rd (.pr (.int .i64) (.sl 2 (.int .i64))) x7 x9).2)).bind fun t19=>if t19=true then(ZA.l0 x7 x8 (wrapI (x9+1)) b0_0)else(some false))else(some false))else none)else none)else(some true):=(Zy _ _ _ _).trans (by kernel_rfl)
noncomputable def ZA.con:Con:=⟨ZA.fn.ins,ZA.fn.outs,Bool,fun x=>ZA.f x.1 x.2.1,fun r=>((r,()),(()))⟩
theorem ZA.valid:Valid Tryz.prog 36 ZA.con:=fnV ZA.fn ZA.E ZA.enc ⟨ttOk,(Zf Zq.valid (Zf ZC.valid Zaq))⟩ Tryz.func36
end Go.Proofs.YtoljodiflhbohaaGreatDoor.P
namespace Go.Proofs.YtoljodiflhbohaaGreatDoor.P
open Go Go.RowKit Go.Proofs.YtoljodiflhbohaaGreatDoor.D
noncomputable def ZaY.E:Env:={ tt:=TT,con:=[],frz:=[],rows:=[],live:=[],n:=9,pin:=0,nils:=[] }
noncomputable def ZaY.fn:D.Fn:={ body:=Tryz.f85.body.getD .skip,res:=Tryz.f85.results.toList,ins:=[.one (.v (.int .i64))],outs:=[.one (.v .bool)] }
def ZaY.enc (y:lsd (flats ZaY.fn.outs)×lsd (ios ZaY.fn.ins)):Bool:=y.1.1
noncomputable def ZaY.f (a0:Int):Option Bool:=denF ZaY.E ZaY.fn ZaY.enc (a0,())
theorem ZaY.f_eq (a0:Int):ZaY.f a0=if a0≥0 then(some (decide (a0≤3)))else(some false):=by kernel_rfl
noncomputable def ZaY.con:Con:=⟨ZaY.fn.ins,ZaY.fn.outs,Bool,fun x=>ZaY.f x.1,fun r=>((r,()),(()))⟩
theorem ZaY.valid:Valid Tryz.prog 85 ZaY.con:=fnV ZaY.fn ZaY.E ZaY.enc ⟨ttOk,Zaq⟩ Tryz.func85
end Go.Proofs.YtoljodiflhbohaaGreatDoor.P
namespace Go.Proofs.YtoljodiflhbohaaGreatDoor.P
open Go Go.RowKit Go.Proofs.YtoljodiflhbohaaGreatDoor.D
noncomputable def Zbb.E:Env:={ tt:=TT,con:=[],frz:=[],rows:=[],live:=[(3,[0,5,6,7])],n:=14,pin:=0,nils:=[] }
noncomputable def Zbb.fn:D.Fn:={ body:=Tryz.f117.body.getD .skip,res:=Tryz.f117.results.toList,ins:=[.one (.v (.int .i64)),.one (.v (.int .i64))],outs:=[.one (.v (.int .i64))] }
def Zbb.enc (y:lsd (flats Zbb.fn.outs)×lsd (ios Zbb.fn.ins)):Int:=y.1.1
noncomputable def Zbb.f (a0:Int) (a1:Int):Option Int:=denF Zbb.E Zbb.fn Zbb.enc (a0,a1,())
noncomputable def Zbb.l0 (x0:Int) (x5:Int) (x6:Int) (x7:Int):Option Int:=denAt Zbb.E Zbb.fn Zbb.enc [1,1,0,1,0] { fr:=[(0,.lf (.int .i64 x0)),(5,.lf (.int .i64 x5)),(6,.lf (.int .i64 x6)),(7,.lf (.int .i64 x7))],ob:=[],nx:=0 }
theorem Zbb.f_eq (a0:Int) (a1:Int):Zbb.f a0 a1=Zbb.l0 a0 1 a1 0:=by kernel_rfl
theorem Zbb.l0_eq (x0:Int) (x5:Int) (x6:Int) (x7:Int):Zbb.l0 x0 x5 x6 x7=if x7 < x6 then(Zbb.l0 x0 (wrapI (x5*x0)) x6 (wrapI (x7+1)))else(some x5):=(Zy _ _ _ _).trans (by kernel_rfl)
noncomputable def Zbb.con:Con:=⟨Zbb.fn.ins,Zbb.fn.outs,Int,fun x=>Zbb.f x.1 x.2.1,fun r=>((r,()),(()))⟩
theorem Zbb.valid:Valid Tryz.prog 117 Zbb.con:=fnV Zbb.fn Zbb.E Zbb.enc ⟨ttOk,Zaq⟩ Tryz.func117
end Go.Proofs.YtoljodiflhbohaaGreatDoor.P
namespace Go.Proofs.YtoljodiflhbohaaGreatDoor.P
open Go Go.RowKit Go.Proofs.YtoljodiflhbohaaGreatDoor.D
noncomputable def Zbn.E:Env:={ tt:=TT,con:=[(61,ZX.con),(117,Zbb.con)],frz:=[],rows:=[],live:=[],n:=10,pin:=0,nils:=[] }
noncomputable def Zbn.fn:D.Fn:={ body:=Tryz.f86.body.getD .skip,res:=Tryz.f86.results.toList,ins:=[.agg [.v (.sl 27 (.sl 2 (.int .i64)))],.one (.v (.int .i64))],outs:=[.one (.v (.int .i64))] }
def Zbn.enc (y:lsd (flats Zbn.fn.outs)×lsd (ios Zbn.fn.ins)):Int:=y.1.1
noncomputable def Zbn.f (l0_0:List (List Int)) (a1:Int):Option Int:=denF Zbn.E Zbn.fn Zbn.enc (l0_0,a1,())
theorem Zbn.f_eq (l0_0:List (List Int)) (a1:Int):Zbn.f l0_0 a1=(ZX.f l0_0).bind fun t6=>(Zbb.f (wrapI (t6 - 1)) a1).bind fun t9=>some t9:=by kernel_rfl
noncomputable def Zbn.con:Con:=⟨Zbn.fn.ins,Zbn.fn.outs,Int,fun x=>Zbn.f x.1 x.2.1,fun r=>((r,()),(()))⟩
theorem Zbn.valid:Valid Tryz.prog 86 Zbn.con:=fnV Zbn.fn Zbn.E Zbn.enc ⟨ttOk,(Zf ZX.valid (Zf Zbb.valid Zaq))⟩ Tryz.func86
end Go.Proofs.YtoljodiflhbohaaGreatDoor.P
namespace Go.Proofs.YtoljodiflhbohaaGreatDoor.P
open Go Go.RowKit Go.Proofs.YtoljodiflhbohaaGreatDoor.D
noncomputable def Zaw.E:Env:={ tt:=TT,con:=[(85,ZaY.con),(86,Zbn.con),(60,ZaH.con)],frz:=[],rows:=[],live:=[],n:=27,pin:=0,nils:=[] }
noncomputable def Zaw.fn:D.Fn:={ body:=Tryz.f37.body.getD .skip,res:=Tryz.f37.results.toList,ins:=[.agg [.v (.sl 27 (.sl 2 (.int .i64)))],.agg [.v (.int .i64),.v (.sl 2 (.int .i64))],.agg [.v (.int .i64),.v (.sl 2 (.int .i64))]],outs:=[.one (.v .bool)] }
def Zaw.enc (y:lsd (flats Zaw.fn.outs)×lsd (ios Zaw.fn.ins)):Bool:=y.1.1
noncomputable def Zaw.f (l0_0:List (List Int)) (a1_0:Int) (l1_1:List Int) (a2_0:Int) (l2_1:List Int):Option Bool:=denF Zaw.E Zaw.fn Zaw.enc (l0_0,a1_0,l1_1,a2_0,l2_1,())
theorem Zaw.f_eq (l0_0:List (List Int)) (a1_0:Int) (l1_1:List Int) (a2_0:Int) (l2_1:List Int):Zaw.f l0_0 a1_0 l1_1 a2_0 l2_1=(ZaY.f a2_0).bind fun t9=>if t9=true then((Zbn.f l0_0 a2_0).bind fun t17=>if(l2_1.length:Int)=t17 then((ZaH.f a1_0 l2_1).bind fun t25=>some (decide (t25=true)))else(some false))else(some false):=by kernel_rfl
noncomputable def Zaw.con:Con:=⟨Zaw.fn.ins,Zaw.fn.outs,Bool,fun x=>Zaw.f x.1 x.2.1 x.2.2.1 x.2.2.2.1 x.2.2.2.2.1,fun r=>((r,()),(()))⟩
theorem Zaw.valid:Valid Tryz.prog 37 Zaw.con:=fnV Zaw.fn Zaw.E Zaw.enc ⟨ttOk,(Zf ZaY.valid (Zf Zbn.valid (Zf ZaH.valid Zaq)))⟩ Tryz.func37
end Go.Proofs.YtoljodiflhbohaaGreatDoor.P
namespace Go.Proofs.YtoljodiflhbohaaGreatDoor.P
open Go Go.RowKit Go.Proofs.YtoljodiflhbohaaGreatDoor.D
noncomputable def Zbq.E:Env:={ tt:=TT,con:=[(86,Zbn.con)],frz:=[],rows:=[],live:=[],n:=11,pin:=0,nils:=[] }
noncomputable def Zbq.fn:D.Fn:={ body:=Tryz.f73.body.getD .skip,res:=Tryz.f73.results.toList,ins:=[.agg [.v (.sl 27 (.sl 2 (.int .i64)))],.one (.v (.int .i64))],outs:=[.agg [.v (.int .i64),.own 2 true (.int .i64)]] }
def Zbq.enc (y:lsd (flats Zbq.fn.outs)×lsd (ios Zbq.fn.ins)):Int×(List Int):=(y.1.1,y.1.2.1)
noncomputable def Zbq.f (l0_0:List (List Int)) (a1:Int):Option (Int×(List Int)):=denF Zbq.E Zbq.fn Zbq.enc (l0_0,a1,())
theorem Zbq.f_eq (l0_0:List (List Int)) (a1:Int):Zbq.f l0_0 a1=(Zbn.f l0_0 a1).bind fun t8=>if t8=t8 then(if 0≤t8 then(if(t8:Int).toNat≤17592186044416 then(some (a1,List.replicate (t8:Int).toNat (0:Int)))else none)else none)else none:=by kernel_rfl
noncomputable def Zbq.con:Con:=⟨Zbq.fn.ins,Zbq.fn.outs,Int×(List Int),fun x=>Zbq.f x.1 x.2.1,fun r=>((r.1,r.2,()),(()))⟩
theorem Zbq.valid:Valid Tryz.prog 73 Zbq.con:=fnV Zbq.fn Zbq.E Zbq.enc ⟨ttOk,(Zf Zbn.valid Zaq)⟩ Tryz.func73
end Go.Proofs.YtoljodiflhbohaaGreatDoor.P
namespace Go.Proofs.YtoljodiflhbohaaGreatDoor.P
open Go Go.RowKit Go.Proofs.YtoljodiflhbohaaGreatDoor.D
noncomputable def ZaV.E:Env:={ tt:=TT,con:=[(61,ZX.con)],frz:=[],rows:=[],live:=[(3,[2,7,8,9])],n:=32,pin:=0,nils:=[] }
noncomputable def ZaV.fn:D.Fn:={ body:=Tryz.f87.body.getD .skip,res:=Tryz.f87.results.toList,ins:=[.agg [.v (.sl 27 (.sl 2 (.int .i64)))],.one (.v (.int .i64)),.one (.v (.int .i64))],outs:=[.one (.own 2 true (.int .i64))] }
def ZaV.enc (y:lsd (flats ZaV.fn.outs)×lsd (ios ZaV.fn.ins)):(List Int):=y.1.1
noncomputable def ZaV.f (l0_0:List (List Int)) (a1:Int) (a2:Int):Option (List Int):=denF ZaV.E ZaV.fn ZaV.enc (l0_0,a1,a2,())
noncomputable def ZaV.l0 (x2:Int) (x8:Int) (x9:Int) (r0:List Int):Option (List Int):=denAt ZaV.E ZaV.fn ZaV.enc [1,1,0,1,0] { fr:=[(2,.lf (.int .i64 x2)),(7,.lf (.own 0)),(8,.lf (.int .i64 x8)),(9,.lf (.int .i64 x9))],ob:=[(0,.row 2 true (.int .i64) r0)],nx:=1 }
theorem ZaV.f_eq (l0_0:List (List Int)) (a1:Int) (a2:Int):ZaV.f l0_0 a1 a2=if a1=a1 then(if 0≤a1 then(if(a1:Int).toNat≤17592186044416 then((ZX.f l0_0).bind fun t13=>ZaV.l0 a2 (wrapI (t13 - 1)) (wrapI (a1 - 1)) (List.replicate (a1:Int).toNat (0:Int)))else none)else none)else none:=by kernel_rfl
theorem ZaV.l0_eq (x2:Int) (x8:Int) (x9:Int) (r0:List Int):ZaV.l0 x2 x8 x9 r0=if x9≥0 then(if x8=0 then none else(if 0≤x9 then(if x9 < (r0.length:Int)then(if 0≤x9 then(if x9 < (r0.length:Int)then(if x8=0 then none else(ZaV.l0 (wrapI ((x2:Int).tdiv x8)) x8 (wrapI (x9 - 1)) (r0.set (x9:Int).toNat (wrapI (1+((x2:Int).tmod x8))))))else none)else none)else none)else none))else(some r0):=(Zy _ _ _ _).trans (by kernel_rfl)
noncomputable def ZaV.con:Con:=⟨ZaV.fn.ins,ZaV.fn.outs,(List Int),fun x=>ZaV.f x.1 x.2.1 x.2.2.1,fun r=>((r,()),(()))⟩
theorem ZaV.valid:Valid Tryz.prog 87 ZaV.con:=fnV ZaV.fn ZaV.E ZaV.enc ⟨ttOk,(Zf ZX.valid Zaq)⟩ Tryz.func87
end Go.Proofs.YtoljodiflhbohaaGreatDoor.P
namespace Go.Proofs.YtoljodiflhbohaaGreatDoor.P
open Go Go.RowKit Go.Proofs.YtoljodiflhbohaaGreatDoor.D
noncomputable def Za7.E:Env:={ tt:=TT,con:=[(73,Zbq.con),(87,ZaV.con)],frz:=[],rows:=[],live:=[(3,[1,2,3,4,8,9,16,17])],n:=38,pin:=0,nils:=[] }
noncomputable def Za7.fn:D.Fn:={ body:=Tryz.f38.body.getD .skip,res:=Tryz.f38.results.toList,ins:=[.agg [.v (.sl 27 (.sl 2 (.int .i64)))],.one (.v (.int .i64)),.one (.v (.int .i64)),.one (.fn [(.sl 2 (.int .i64))] (.int .i64))],outs:=[.agg [.v (.int .i64),.own 2 true (.int .i64)]] }
def Za7.enc (y:lsd (flats Za7.fn.outs)×lsd (ios Za7.fn.ins)):Int×(List Int):=(y.1.1,y.1.2.1)
noncomputable def Za7.f (l0_0:List (List Int)) (a1:Int) (a2:Int) (f3:(List Int)→Option Int):Option (Int×(List Int)):=denF Za7.E Za7.fn Za7.enc (l0_0,a1,a2,fun x=>f3 x.1,())
noncomputable def Za7.l0 (x1:Int) (x2:Int) (fx3:(List Int)→Option Int) (x16:Int) (x17:Int) (b0_0:List (List Int)) (b1_0:Int) (b2_0:Int) (r3:List Int):Option (Int×(List Int)):=denAt Za7.E Za7.fn Za7.enc [1,1,0,1,0] { fr:=[(1,.lf (.int .i64 x1)),(2,.lf (.int .i64 x2)),(3,.lf (.fn [(.sl 2 (.int .i64))] (.int .i64) (fun x=>fx3 x.1))),(4,.lf (.box 0 0)),(8,.lf (.box 1 0)),(9,.lf (.box 2 0)),(16,.lf (.int .i64 x16)),(17,.lf (.int .i64 x17))],ob:=[(0,.box 26 false [.sl (.sl 2 (.int .i64)) b0_0]),(1,.box 31 false [.int .i64 b1_0,.nil]),(2,.box 31 false [.int .i64 b2_0,.own 3]),(3,.row 2 true (.int .i64) r3)],nx:=4 }
theorem Za7.f_eq (l0_0:List (List Int)) (a1:Int) (a2:Int) (f3:(List Int)→Option Int):Za7.f l0_0 a1 a2 f3=(Zbq.f l0_0 a2).bind fun t13=>Za7.l0 a1 a2 f3 (t13.2.length:Int) 0 l0_0 0 t13.1 t13.2:=by kernel_rfl
theorem Za7.l0_eq (x1:Int) (x2:Int) (fx3:(List Int)→Option Int) (x16:Int) (x17:Int) (b0_0:List (List Int)) (b1_0:Int) (b2_0:Int) (r3:List Int):Za7.l0 x1 x2 fx3 x16 x17 b0_0 b1_0 b2_0 r3=if x17 < x16 then((ZaV.f b0_0 x2 x17).bind fun t27=>(fx3 t27).bind fun t28=>if x1=0 then none else(if x1=0 then none else(if 0≤x17 then(if x17 < (r3.length:Int)then(if 0≤x17 then(if x17 < (r3.length:Int)then(Za7.l0 x1 x2 fx3 x16 (wrapI (x17+1)) b0_0 b1_0 b2_0 (r3.set (x17:Int).toNat ((wrapI (((t28:Int).tmod x1)+x1):Int).tmod x1)))else none)else none)else none)else none)))else(some (b2_0,r3)):=(Zy _ _ _ _).trans (by kernel_rfl)
noncomputable def Za7.con:Con:=⟨Za7.fn.ins,Za7.fn.outs,Int×(List Int),fun x=>Za7.f x.1 x.2.1 x.2.2.1 (fun z0=>x.2.2.2.1 (z0,())),fun r=>((r.1,r.2,()),(()))⟩
theorem Za7.valid:Valid Tryz.prog 38 Za7.con:=fnV Za7.fn Za7.E Za7.enc ⟨ttOk,(Zf Zbq.valid (Zf ZaV.valid Zaq))⟩ Tryz.func38
end Go.Proofs.YtoljodiflhbohaaGreatDoor.P
namespace Go.Proofs.YtoljodiflhbohaaGreatDoor.P
open Go Go.RowKit Go.Proofs.YtoljodiflhbohaaGreatDoor.D
noncomputable def Zbg.E:Env:={ tt:=TT,con:=[(61,ZX.con)],frz:=[],rows:=[],live:=[(3,[2,5,8,9,10])],n:=26,pin:=0,nils:=[] }
noncomputable def Zbg.fn:D.Fn:={ body:=Tryz.f88.body.getD .skip,res:=Tryz.f88.results.toList,ins:=[.agg [.v (.sl 27 (.sl 2 (.int .i64)))],.one (.v (.sl 2 (.int .i64)))],outs:=[.one (.v (.int .i64))] }
def Zbg.enc (y:lsd (flats Zbg.fn.outs)×lsd (ios Zbg.fn.ins)):Int:=y.1.1
noncomputable def Zbg.f (l0_0:List (List Int)) (l1:List Int):Option Int:=denF Zbg.E Zbg.fn Zbg.enc (l0_0,l1,())
noncomputable def Zbg.l0 (x5:Int) (x8:List Int) (x9:Int) (x10:Int) (b0_0:List (List Int)):Option Int:=denAt Zbg.E Zbg.fn Zbg.enc [1,1,0,1,0] { fr:=[(2,.lf (.box 0 0)),(5,.lf (.int .i64 x5)),(8,.lf (.sl (.int .i64) x8)),(9,.lf (.int .i64 x9)),(10,.lf (.int .i64 x10))],ob:=[(0,.box 26 false [.sl (.sl 2 (.int .i64)) b0_0])],nx:=1 }
theorem Zbg.f_eq (l0_0:List (List Int)) (l1:List Int):Zbg.f l0_0 l1=Zbg.l0 0 l1 (l1.length:Int) 0 l0_0:=by kernel_rfl
theorem Zbg.l0_eq (x5:Int) (x8:List Int) (x9:Int) (x10:Int) (b0_0:List (List Int)):Zbg.l0 x5 x8 x9 x10 b0_0=if x10 < x9 then(if 0≤x10 then(if x10 < (x8.length:Int)then(if(rd x8 x10)=0 then(some (-1))else((ZX.f b0_0).bind fun t18=>Zbg.l0 (wrapI ((wrapI ((wrapI (x5*(wrapI (t18 - 1))))+(rd x8 x10))) - 1)) x8 x9 (wrapI (x10+1)) b0_0))else none)else none)else(some x5):=(Zy _ _ _ _).trans (by kernel_rfl)
noncomputable def Zbg.con:Con:=⟨Zbg.fn.ins,Zbg.fn.outs,Int,fun x=>Zbg.f x.1 x.2.1,fun r=>((r,()),(()))⟩
theorem Zbg.valid:Valid Tryz.prog 88 Zbg.con:=fnV Zbg.fn Zbg.E Zbg.enc ⟨ttOk,(Zf ZX.valid Zaq)⟩ Tryz.func88
end Go.Proofs.YtoljodiflhbohaaGreatDoor.P
namespace Go.Proofs.YtoljodiflhbohaaGreatDoor.P
open Go Go.RowKit Go.Proofs.YtoljodiflhbohaaGreatDoor.D
noncomputable def ZY.E:Env:={ tt:=TT,con:=[(88,Zbg.con)],frz:=[],rows:=[],live:=[],n:=18,pin:=0,nils:=[] }
noncomputable def ZY.fn:D.Fn:={ body:=Tryz.f40.body.getD .skip,res:=Tryz.f40.results.toList,ins:=[.agg [.v (.int .i64),.v (.sl 2 (.int .i64))],.agg [.v (.sl 27 (.sl 2 (.int .i64)))],.one (.v (.sl 2 (.int .i64)))],outs:=[.one (.v (.int .i64))] }
def ZY.enc (y:lsd (flats ZY.fn.outs)×lsd (ios ZY.fn.ins)):Int:=y.1.1
noncomputable def ZY.f (a0_0:Int) (l0_1:List Int) (l1_0:List (List Int)) (l2:List Int):Option Int:=denF ZY.E ZY.fn ZY.enc (a0_0,l0_1,l1_0,l2,())
theorem ZY.f_eq (a0_0:Int) (l0_1:List Int) (l1_0:List (List Int)) (l2:List Int):ZY.f a0_0 l0_1 l1_0 l2=(Zbg.f l1_0 l2).bind fun t10=>if t10≥0 then(if 0≤t10 then(if t10 < (l0_1.length:Int)then(some (rd l0_1 t10))else none)else none)else(some 0):=by kernel_rfl
noncomputable def ZY.con:Con:=⟨ZY.fn.ins,ZY.fn.outs,Int,fun x=>ZY.f x.1 x.2.1 x.2.2.1 x.2.2.2.1,fun r=>((r,()),(()))⟩
theorem ZY.valid:Valid Tryz.prog 40 ZY.con:=fnV ZY.fn ZY.E ZY.enc ⟨ttOk,(Zf Zbg.valid Zaq)⟩ Tryz.func40
end Go.Proofs.YtoljodiflhbohaaGreatDoor.P
namespace Go.Proofs.YtoljodiflhbohaaGreatDoor.P
open Go Go.RowKit Go.Proofs.YtoljodiflhbohaaGreatDoor.D
noncomputable def ZI.E:Env:={ tt:=TT,con:=[(40,ZY.con),(41,Zl.con)],frz:=[],rows:=[],live:=[],n:=34,pin:=0,nils:=[] }
noncomputable def ZI.fn:D.Fn:={ body:=Tryz.f39.body.getD .skip,res:=Tryz.f39.results.toList,ins:=[.one (.v (.sl 2 (.int .i64))),.ptr true 31 [.v (.int .i64),.v (.sl 2 (.int .i64))],.ptr true 26 [.v (.sl 27 (.sl 2 (.int .i64)))],.ptr true 29 [.v (.int .i64),.v (.sl 2 (.int .i64))],.ptr true 31 [.v (.int .i64),.v (.sl 2 (.int .i64))]],outs:=[.one (.v (.int .i64))] }
def ZI.enc (y:lsd (flats ZI.fn.outs)×lsd (ios ZI.fn.ins)):Int:=y.1.1
noncomputable def ZI.f (l0:List Int) (a1_0:Int) (l1_1:List Int) (l2:List (List Int)) (a3_0:Int) (l3_1:List Int) (a4_0:Int) (l4_1:List Int):Option Int:=denF ZI.E ZI.fn ZI.enc (l0,a1_0,l1_1,l2,a3_0,l3_1,a4_0,l4_1,())
theorem ZI.f_eq (l0:List Int) (a1_0:Int) (l1_1:List Int) (l2:List (List Int)) (a3_0:Int) (l3_1:List Int) (a4_0:Int) (l4_1:List Int):ZI.f l0 a1_0 l1_1 l2 a3_0 l3_1 a4_0 l4_1=if 0≤a1_0 then(if a1_0≤(l0.length:Int)then(if 0≤a1_0 then(if a1_0≤(l0.length:Int)then((ZY.f a1_0 l1_1 l2 (l0.take (a1_0:Int).toNat)).bind fun t20=>(Zl.f l2 (l0.take (a1_0:Int).toNat)).bind fun t25=>if 0≤t25 then(if t25 < (l3_1.length:Int)then((ZY.f a4_0 l4_1 l2 (l0.drop (a1_0:Int).toNat)).bind fun t32=>some (wrapI ((wrapI (t20*(rd l3_1 t25)))*t32)))else none)else none)else none)else none)else none)else none:=by kernel_rfl
noncomputable def ZI.con:Con:=⟨ZI.fn.ins,ZI.fn.outs,Int,fun x=>ZI.f x.1 x.2.1 x.2.2.1 x.2.2.2.1 x.2.2.2.2.1 x.2.2.2.2.2.1 x.2.2.2.2.2.2.1 x.2.2.2.2.2.2.2.1,fun r=>((r,()),(()))⟩
theorem ZI.valid:Valid Tryz.prog 39 ZI.con:=fnV ZI.fn ZI.E ZI.enc ⟨ttOk,(Zf ZY.valid (Zf Zl.valid Zaq))⟩ Tryz.func39
end Go.Proofs.YtoljodiflhbohaaGreatDoor.P
namespace Go.Proofs.YtoljodiflhbohaaGreatDoor.P
open Go Go.RowKit Go.Proofs.YtoljodiflhbohaaGreatDoor.D
noncomputable def Zt.E:Env:={ tt:=TT,con:=[(36,ZA.con),(37,Zaw.con),(38,Za7.con),(39,ZI.con)],frz:=[],rows:=[15],live:=[],n:=57,pin:=0,nils:=[] }
noncomputable def Zt.fn:D.Fn:={ body:=Tryz.f6.body.getD .skip,res:=Tryz.f6.results.toList,ins:=[.agg [.v (.sl 27 (.sl 2 (.int .i64)))],.agg [.v (.int .i64),.v (.sl 2 (.int .i64))],.agg [.v (.int .i64),.v (.sl 2 (.int .i64))],.agg [.v (.int .i64),.v (.sl 2 (.int .i64))],.agg [.v (.int .i64),.v (.sl 2 (.int .i64))]],outs:=[.agg [.v (.int .i64),.own 2 true (.int .i64)],.one (.v (.int .i64))] }
def Zt.enc (y:lsd (flats Zt.fn.outs)×lsd (ios Zt.fn.ins)):Int×(List Int)×Int:=(y.1.1,y.1.2.1,y.1.2.2.1)
noncomputable def Zt.f (l0_0:List (List Int)) (a1_0:Int) (l1_1:List Int) (a2_0:Int) (l2_1:List Int) (a3_0:Int) (l3_1:List Int) (a4_0:Int) (l4_1:List Int):Option (Int×(List Int)×Int):=denF Zt.E Zt.fn Zt.enc (l0_0,a1_0,l1_1,a2_0,l2_1,a3_0,l3_1,a4_0,l4_1,())
theorem Zt.f_eq (l0_0:List (List Int)) (a1_0:Int) (l1_1:List Int) (a2_0:Int) (l2_1:List Int) (a3_0:Int) (l3_1:List Int) (a4_0:Int) (l4_1:List Int):Zt.f l0_0 a1_0 l1_1 a2_0 l2_1 a3_0 l3_1 a4_0 l4_1=(ZA.f l0_0 ([(a1_0,l1_1),(a2_0,l2_1)]:List (Int×(List Int)))).bind fun t16=>if t16=true then((Zaw.f l0_0 a1_0 l1_1 a3_0 l3_1).bind fun t22=>if t22=true then((Zaw.f l0_0 a2_0 l2_1 a4_0 l4_1).bind fun t29=>if t29=true then(if a1_0=a2_0 then(if(wrapI (a3_0+a4_0)) > 3 then(some (0,([]:List Int),2))else((Za7.f l0_0 a1_0 (wrapI (a3_0+a4_0)) (fun z0=>(ZI.f z0 a3_0 l3_1 l0_0 a2_0 l2_1 a4_0 l4_1).map fun z=>z)).bind fun t56=>some (t56.1,t56.2,0)))else(some (0,([]:List Int),2)))else(some (0,([]:List Int),1)))else(some (0,([]:List Int),1)))else(some (0,([]:List Int),1)):=by kernel_rfl
noncomputable def Zt.con:Con:=⟨Zt.fn.ins,Zt.fn.outs,Int×(List Int)×Int,fun x=>Zt.f x.1 x.2.1 x.2.2.1 x.2.2.2.1 x.2.2.2.2.1 x.2.2.2.2.2.1 x.2.2.2.2.2.2.1 x.2.2.2.2.2.2.2.1 x.2.2.2.2.2.2.2.2.1,fun r=>((r.1,r.2.1,r.2.2,()),(()))⟩
theorem Zt.valid:Valid Tryz.prog 6 Zt.con:=fnV Zt.fn Zt.E Zt.enc ⟨ttOk,(Zf ZA.valid (Zf Zaw.valid (Zf Za7.valid (Zf ZI.valid Zaq))))⟩ Tryz.func6
end Go.Proofs.YtoljodiflhbohaaGreatDoor.P
namespace Go.Proofs.YtoljodiflhbohaaGreatDoor.P
open Go Go.RowKit Go.Proofs.YtoljodiflhbohaaGreatDoor.D
noncomputable def ZaZ.E:Env:={ tt:=TT,con:=[],frz:=[],rows:=[],live:=[],n:=15,pin:=0,nils:=[] }
noncomputable def ZaZ.fn:D.Fn:={ body:=Tryz.f74.body.getD .skip,res:=Tryz.f74.results.toList,ins:=[.one (.v (.int .i64)),.one (.v (.int .i64)),.one (.v (.int .i64))],outs:=[.one (.v .bool)] }
def ZaZ.enc (y:lsd (flats ZaZ.fn.outs)×lsd (ios ZaZ.fn.ins)):Bool:=y.1.1
noncomputable def ZaZ.f (a0:Int) (a1:Int) (a2:Int):Option Bool:=denF ZaZ.E ZaZ.fn ZaZ.enc (a0,a1,a2,())
theorem ZaZ.f_eq (a0:Int) (a1:Int) (a2:Int):ZaZ.f a0 a1 a2=if a0≥a1 then(some (decide (a0≤a2)))else(some false):=by kernel_rfl
noncomputable def ZaZ.con:Con:=⟨ZaZ.fn.ins,ZaZ.fn.outs,Bool,fun x=>ZaZ.f x.1 x.2.1 x.2.2.1,fun r=>((r,()),(()))⟩
theorem ZaZ.valid:Valid Tryz.prog 74 ZaZ.con:=fnV ZaZ.fn ZaZ.E ZaZ.enc ⟨ttOk,Zaq⟩ Tryz.func74
end Go.Proofs.YtoljodiflhbohaaGreatDoor.P
namespace Go.Proofs.YtoljodiflhbohaaGreatDoor.P
open Go Go.RowKit Go.Proofs.YtoljodiflhbohaaGreatDoor.D
noncomputable def Zs.E:Env:={ tt:=TT,con:=[(74,ZaZ.con)],frz:=[],rows:=[],live:=[(5,[1,3,4]),(10,[1,3,4,5]),(15,[1,3,6]),(21,[1,3,6,7,8]),(25,[1,3,6,7,8,9])],n:=137,pin:=0,nils:=[7] }
noncomputable def Zs.fn:D.Fn:={ body:=Tryz.f55.body.getD .skip,res:=Tryz.f55.results.toList,ins:=[.agg [.v (.sl 27 (.sl 2 (.int .i64)))]],outs:=[.one (.v .bool)] }
def Zs.enc (y:lsd (flats Zs.fn.outs)×lsd (ios Zs.fn.ins)):Bool:=y.1.1
noncomputable def Zs.f (l0_0:List (List Int)):Option Bool:=denF Zs.E Zs.fn Zs.enc (l0_0,())
noncomputable def Zs.l0 (x3:Int) (x4:Int) (b0_0:List (List Int)):Option Bool:=denAt Zs.E Zs.fn Zs.enc [1,1,1,0,1,0] { fr:=[(1,.lf (.box 0 0)),(3,.lf (.int .i64 x3)),(4,.lf (.int .i64 x4))],ob:=[(0,.box 26 false [.sl (.sl 2 (.int .i64)) b0_0])],nx:=1 }
noncomputable def Zs.l1 (x3:Int) (x4:Int) (x5:Int) (b0_0:List (List Int)):Option Bool:=denAt Zs.E Zs.fn Zs.enc [1,1,1,0,1,0,0,1,0,0,1,1,0] { fr:=[(1,.lf (.box 0 0)),(3,.lf (.int .i64 x3)),(4,.lf (.int .i64 x4)),(5,.lf (.int .i64 x5))],ob:=[(0,.box 26 false [.sl (.sl 2 (.int .i64)) b0_0])],nx:=1 }
noncomputable def Zs.l2 (x3:Int) (x6:Int) (b0_0:List (List Int)):Option Bool:=denAt Zs.E Zs.fn Zs.enc [1,1,1,1,0,1,0] { fr:=[(1,.lf (.box 0 0)),(3,.lf (.int .i64 x3)),(6,.lf (.int .i64 x6))],ob:=[(0,.box 26 false [.sl (.sl 2 (.int .i64)) b0_0])],nx:=1 }
noncomputable def Zs.l3 (x3:Int) (x6:Int) (x7:Bool) (x8:Int) (b0_0:List (List Int)):Option Bool:=denAt Zs.E Zs.fn Zs.enc [1,1,1,1,0,1,0,0,1,0,0,1,1,0,1,0] { fr:=[(1,.lf (.box 0 0)),(3,.lf (.int .i64 x3)),(6,.lf (.int .i64 x6)),(7,.lf (ZdV x7)),(8,.lf (.int .i64 x8))],ob:=[(0,.box 26 false [.sl (.sl 2 (.int .i64)) b0_0])],nx:=1 }
noncomputable def Zs.l4 (x3:Int) (x6:Int) (x7:Bool) (x8:Int) (x9:Int) (b0_0:List (List Int)):Option Bool:=denAt Zs.E Zs.fn Zs.enc [1,1,1,1,0,1,0,0,1,0,0,1,1,0,1,0,0,1,0,0,1,1,0] { fr:=[(1,.lf (.box 0 0)),(3,.lf (.int .i64 x3)),(6,.lf (.int .i64 x6)),(7,.lf (ZdV x7)),(8,.lf (.int .i64 x8)),(9,.lf (.int .i64 x9))],ob:=[(0,.box 26 false [.sl (.sl 2 (.int .i64)) b0_0])],nx:=1 }
theorem Zs.f_eq (l0_0:List (List Int)):Zs.f l0_0=(ZaZ.f (l0_0.length:Int) 1 8).bind fun t14=>if t14=true then(Zs.l0 (l0_0.length:Int) 0 l0_0)else(some false):=by kernel_rfl
theorem Zs.l0_eq (x3:Int) (x4:Int) (b0_0:List (List Int)):Zs.l0 x3 x4 b0_0=if x4 < x3 then(if 0≤x4 then(if x4 < (b0_0.length:Int)then(if((row b0_0 x4).length:Int)=x3 then(Zs.l1 x3 x4 0 b0_0)else(some false))else none)else none)else(Zs.l2 x3 0 b0_0):=(Zy _ _ _ _).trans (by kernel_rfl)
theorem Zs.l1_eq (x3:Int) (x4:Int) (x5:Int) (b0_0:List (List Int)):Zs.l1 x3 x4 x5 b0_0=if x5 < x3 then(if 0≤x4 then(if x4 < (b0_0.length:Int)then(if 0≤x5 then(if x5 < ((row b0_0 x4).length:Int)then((ZaZ.f (T b0_0 x4 x5) 0 (wrapI (x3 - 1))).bind fun t44=>if t44=true then(Zs.l1 x3 x4 (wrapI (x5+1)) b0_0)else(some false))else none)else none)else none)else none)else(Zs.l0 x3 (wrapI (x4+1)) b0_0):=(Zy _ _ _ _).trans (by kernel_rfl)
theorem Zs.l2_eq (x3:Int) (x6:Int) (b0_0:List (List Int)):Zs.l2 x3 x6 b0_0=if x6 < x3 then(if 0 < (b0_0.length:Int)then(if 0≤x6 then(if x6 < ((row b0_0 0).length:Int)then(if(T b0_0 0 x6)=x6 then(if 0≤x6 then(if x6 < (b0_0.length:Int)then(if 0 < ((row b0_0 x6).length:Int)then(if(T b0_0 x6 0)=x6 then(Zs.l3 x3 x6 false 0 b0_0)else(some false))else none)else none)else none)else(some false))else none)else none)else none)else(some true):=(Zy _ _ _ _).trans (by kernel_rfl)
theorem Zs.l3_eq (x3:Int) (x6:Int) (x7:Bool) (x8:Int) (b0_0:List (List Int)):Zs.l3 x3 x6 x7 x8 b0_0=if x8 < x3 then(if x7=true then(Zs.l4 x3 x6 true x8 0 b0_0)else(if 0≤x6 then(if x6 < (b0_0.length:Int)then(if 0≤x8 then(if x8 < ((row b0_0 x6).length:Int)then(if(T b0_0 x6 x8)=0 then(if 0≤x8 then(if x8 < (b0_0.length:Int)then(if 0≤x6 then(if x6 < ((row b0_0 x8).length:Int)then(Zs.l4 x3 x6 (decide ((T b0_0 x8 x6)=0)) x8 0 b0_0)else none)else none)else none)else none)else(Zs.l4 x3 x6 false x8 0 b0_0))else none)else none)else none)else none))else(if x7=true then(Zs.l2 x3 (wrapI (x6+1)) b0_0)else(some false)):=(Zy _ _ _ _).trans (by kernel_rfl)
theorem Zs.l4_eq (x3:Int) (x6:Int) (x7:Bool) (x8:Int) (x9:Int) (b0_0:List (List Int)):Zs.l4 x3 x6 x7 x8 x9 b0_0=if x9 < x3 then(if 0≤x6 then(if x6 < (b0_0.length:Int)then(if 0≤x8 then(if x8 < ((row b0_0 x6).length:Int)then(if 0≤T b0_0 x6 x8 then(if T b0_0 x6 x8 < (b0_0.length:Int)then(if 0≤x9 then(if x9 < ((row b0_0 (T b0_0 x6 x8)).length:Int)then(if 0≤x6 then(if x6 < (b0_0.length:Int)then(if 0≤x8 then(if x8 < (b0_0.length:Int)then(if 0≤x9 then(if x9 < ((row b0_0 x8).length:Int)then(if 0≤T b0_0 x8 x9 then(if T b0_0 x8 x9 < ((row b0_0 x6).length:Int)then(if(T b0_0 (T b0_0 x6 x8) x9)=(T b0_0 x6 (T b0_0 x8 x9))then(Zs.l4 x3 x6 x7 x8 (wrapI (x9+1)) b0_0)else(some false))else none)else none)else none)else none)else none)else none)else none)else none)else none)else none)else none)else none)else none)else none)else none)else none)else(Zs.l3 x3 x6 x7 (wrapI (x8+1)) b0_0):=(Zy _ _ _ _).trans (by kernel_rfl)
noncomputable def Zs.con:Con:=⟨Zs.fn.ins,Zs.fn.outs,Bool,fun x=>Zs.f x.1,fun r=>((r,()),(()))⟩
theorem Zs.valid:Valid Tryz.prog 55 Zs.con:=fnV Zs.fn Zs.E Zs.enc ⟨ttOk,(Zf ZaZ.valid Zaq)⟩ Tryz.func55
end Go.Proofs.YtoljodiflhbohaaGreatDoor.P
namespace Go.Proofs.YtoljodiflhbohaaGreatDoor.P
open Go Go.RowKit Go.Proofs.YtoljodiflhbohaaGreatDoor.D
noncomputable def Zaj.E:Env:={ tt:=TT,con:=[(74,ZaZ.con),(118,ZaS.con)],frz:=[],rows:=[],live:=[(4,[2,3,5]),(9,[2,3,6]),(12,[2,3,6,7])],n:=90,pin:=0,nils:=[] }
noncomputable def Zaj.fn:D.Fn:={ body:=Tryz.f89.body.getD .skip,res:=Tryz.f89.results.toList,ins:=[.agg [.v (.sl 27 (.sl 2 (.int .i64)))],.agg [.v (.int .i64),.v (.sl 2 (.int .i64))]],outs:=[.one (.v .bool)] }
def Zaj.enc (y:lsd (flats Zaj.fn.outs)×lsd (ios Zaj.fn.ins)):Bool:=y.1.1
noncomputable def Zaj.f (l0_0:List (List Int)) (a1_0:Int) (l1_1:List Int):Option Bool:=denF Zaj.E Zaj.fn Zaj.enc (l0_0,a1_0,l1_1,())
noncomputable def Zaj.l0 (x5:Int) (b0_0:List (List Int)) (b1_0:Int) (b1_1:List Int):Option Bool:=denAt Zaj.E Zaj.fn Zaj.enc [1,1,0,1,0] { fr:=[(2,.lf (.box 0 0)),(3,.lf (.box 1 0)),(5,.lf (.int .i64 x5))],ob:=[(0,.box 26 false [.sl (.sl 2 (.int .i64)) b0_0]),(1,.box 29 false [.int .i64 b1_0,.sl (.int .i64) b1_1])],nx:=2 }
noncomputable def Zaj.l1 (x6:Int) (b0_0:List (List Int)) (b1_0:Int) (b1_1:List Int):Option Bool:=denAt Zaj.E Zaj.fn Zaj.enc [1,1,1,0,1,0] { fr:=[(2,.lf (.box 0 0)),(3,.lf (.box 1 0)),(6,.lf (.int .i64 x6))],ob:=[(0,.box 26 false [.sl (.sl 2 (.int .i64)) b0_0]),(1,.box 29 false [.int .i64 b1_0,.sl (.int .i64) b1_1])],nx:=2 }
noncomputable def Zaj.l2 (x6:Int) (x7:Int) (b0_0:List (List Int)) (b1_0:Int) (b1_1:List Int):Option Bool:=denAt Zaj.E Zaj.fn Zaj.enc [1,1,1,0,1,0,0,1,0,0,1,0] { fr:=[(2,.lf (.box 0 0)),(3,.lf (.box 1 0)),(6,.lf (.int .i64 x6)),(7,.lf (.int .i64 x7))],ob:=[(0,.box 26 false [.sl (.sl 2 (.int .i64)) b0_0]),(1,.box 29 false [.int .i64 b1_0,.sl (.int .i64) b1_1])],nx:=2 }
theorem Zaj.f_eq (l0_0:List (List Int)) (a1_0:Int) (l1_1:List Int):Zaj.f l0_0 a1_0 l1_1=(ZaZ.f a1_0 2 12).bind fun t10=>if t10=true then(if(l1_1.length:Int)=(l0_0.length:Int)then(Zaj.l0 0 l0_0 a1_0 l1_1)else(some false))else(some false):=by kernel_rfl
theorem Zaj.l0_eq (x5:Int) (b0_0:List (List Int)) (b1_0:Int) (b1_1:List Int):Zaj.l0 x5 b0_0 b1_0 b1_1=if x5 < (b1_1.length:Int)then(if 0≤x5 then(if x5 < (b1_1.length:Int)then((ZaZ.f (rd b1_1 x5) 1 (wrapI (b1_0 - 1))).bind fun t36=>if t36=true then(if 0≤x5 then(if x5 < (b1_1.length:Int)then((ZaS.f (rd b1_1 x5) b1_0).bind fun t46=>if t46=1 then(Zaj.l0 (wrapI (x5+1)) b0_0 b1_0 b1_1)else(some false))else none)else none)else(some false))else none)else none)else(Zaj.l1 0 b0_0 b1_0 b1_1):=(Zy _ _ _ _).trans (by kernel_rfl)
theorem Zaj.l1_eq (x6:Int) (b0_0:List (List Int)) (b1_0:Int) (b1_1:List Int):Zaj.l1 x6 b0_0 b1_0 b1_1=if x6 < (b1_1.length:Int)then(Zaj.l2 x6 0 b0_0 b1_0 b1_1)else(some true):=(Zy _ _ _ _).trans (by kernel_rfl)
theorem Zaj.l2_eq (x6:Int) (x7:Int) (b0_0:List (List Int)) (b1_0:Int) (b1_1:List Int):Zaj.l2 x6 x7 b0_0 b1_0 b1_1=if x7 < (b1_1.length:Int)then(if 0≤x6 then(if x6 < (b0_0.length:Int)then(if 0≤x7 then(if x7 < ((row b0_0 x6).length:Int)then(if 0≤T b0_0 x6 x7 then(if T b0_0 x6 x7 < (b1_1.length:Int)then(if 0≤x6 then(if x6 < (b1_1.length:Int)then(if 0≤x7 then(if x7 < (b1_1.length:Int)then(if b1_0=0 then none else(if(rd b1_1 (T b0_0 x6 x7))=((wrapI ((rd b1_1 x6)*(rd b1_1 x7)):Int).tmod b1_0)then(Zaj.l2 x6 (wrapI (x7+1)) b0_0 b1_0 b1_1)else(some false)))else none)else none)else none)else none)else none)else none)else none)else none)else none)else none)else(Zaj.l1 (wrapI (x6+1)) b0_0 b1_0 b1_1):=(Zy _ _ _ _).trans (by kernel_rfl)
noncomputable def Zaj.con:Con:=⟨Zaj.fn.ins,Zaj.fn.outs,Bool,fun x=>Zaj.f x.1 x.2.1 x.2.2.1,fun r=>((r,()),(()))⟩
theorem Zaj.valid:Valid Tryz.prog 89 Zaj.con:=fnV Zaj.fn Zaj.E Zaj.enc ⟨ttOk,(Zf ZaZ.valid (Zf ZaS.valid Zaq))⟩ Tryz.func89
end Go.Proofs.YtoljodiflhbohaaGreatDoor.P
namespace Go.Proofs.YtoljodiflhbohaaGreatDoor.P
open Go Go.RowKit Go.Proofs.YtoljodiflhbohaaGreatDoor.D
noncomputable def Zbd.E:Env:={ tt:=TT,con:=[(74,ZaZ.con),(91,ZN.con)],frz:=[],rows:=[],live:=[(4,[4,5,7])],n:=39,pin:=0,nils:=[] }
noncomputable def Zbd.fn:D.Fn:={ body:=Tryz.f90.body.getD .skip,res:=Tryz.f90.results.toList,ins:=[.agg [.v (.sl 27 (.sl 2 (.int .i64)))],.agg [.v (.int .i64),.v (.sl 2 (.int .i64))],.agg [.v (.int .i64),.v (.sl 2 (.int .i64))]],outs:=[.one (.v .bool)] }
def Zbd.enc (y:lsd (flats Zbd.fn.outs)×lsd (ios Zbd.fn.ins)):Bool:=y.1.1
noncomputable def Zbd.f (l0_0:List (List Int)) (a1_0:Int) (l1_1:List Int) (a2_0:Int) (l2_1:List Int):Option Bool:=denF Zbd.E Zbd.fn Zbd.enc (l0_0,a1_0,l1_1,a2_0,l2_1,())
noncomputable def Zbd.l0 (x7:Int) (b0_0:Int) (b0_1:List Int) (b1_0:Int) (b1_1:List Int):Option Bool:=denAt Zbd.E Zbd.fn Zbd.enc [1,1,0,1,0] { fr:=[(4,.lf (.box 0 0)),(5,.lf (.box 1 0)),(7,.lf (.int .i64 x7))],ob:=[(0,.box 29 false [.int .i64 b0_0,.sl (.int .i64) b0_1]),(1,.box 31 false [.int .i64 b1_0,.sl (.int .i64) b1_1])],nx:=2 }
theorem Zbd.f_eq (l0_0:List (List Int)) (a1_0:Int) (l1_1:List Int) (a2_0:Int) (l2_1:List Int):Zbd.f l0_0 a1_0 l1_1 a2_0 l2_1=(ZaZ.f a2_0 0 3).bind fun t10=>if t10=true then((ZN.f l0_0 a2_0).bind fun t19=>if(l2_1.length:Int)=t19 then(Zbd.l0 0 a1_0 l1_1 a2_0 l2_1)else(some false))else(some false):=by kernel_rfl
theorem Zbd.l0_eq (x7:Int) (b0_0:Int) (b0_1:List Int) (b1_0:Int) (b1_1:List Int):Zbd.l0 x7 b0_0 b0_1 b1_0 b1_1=if x7 < (b1_1.length:Int)then(if 0≤x7 then(if x7 < (b1_1.length:Int)then((ZaZ.f (rd b1_1 x7) 0 (wrapI (b0_0 - 1))).bind fun t37=>if t37=true then(Zbd.l0 (wrapI (x7+1)) b0_0 b0_1 b1_0 b1_1)else(some false))else none)else none)else(some true):=(Zy _ _ _ _).trans (by kernel_rfl)
noncomputable def Zbd.con:Con:=⟨Zbd.fn.ins,Zbd.fn.outs,Bool,fun x=>Zbd.f x.1 x.2.1 x.2.2.1 x.2.2.2.1 x.2.2.2.2.1,fun r=>((r,()),(()))⟩
theorem Zbd.valid:Valid Tryz.prog 90 Zbd.con:=fnV Zbd.fn Zbd.E Zbd.enc ⟨ttOk,(Zf ZaZ.valid (Zf ZN.valid Zaq))⟩ Tryz.func90
end Go.Proofs.YtoljodiflhbohaaGreatDoor.P
namespace Go.Proofs.YtoljodiflhbohaaGreatDoor.P
open Go Go.RowKit Go.Proofs.YtoljodiflhbohaaGreatDoor.D
noncomputable def ZJ.E:Env:={ tt:=TT,con:=[(55,Zs.con),(89,Zaj.con),(90,Zbd.con)],frz:=[],rows:=[],live:=[(4,[2,3,4,7])],n:=31,pin:=0,nils:=[] }
noncomputable def ZJ.fn:D.Fn:={ body:=Tryz.f42.body.getD .skip,res:=Tryz.f42.results.toList,ins:=[.agg [.v (.sl 27 (.sl 2 (.int .i64)))],.agg [.v (.int .i64),.v (.sl 2 (.int .i64))],.one (.v (.sl 31 (.pr (.int .i64) (.sl 2 (.int .i64)))))],outs:=[.one (.v (.int .i64))] }
def ZJ.enc (y:lsd (flats ZJ.fn.outs)×lsd (ios ZJ.fn.ins)):Int:=y.1.1
noncomputable def ZJ.f (l0_0:List (List Int)) (a1_0:Int) (l1_1:List Int) (l2:List (Int×(List Int))):Option Int:=denF ZJ.E ZJ.fn ZJ.enc (l0_0,a1_0,l1_1,l2,())
noncomputable def ZJ.l0 (x2:List (Int×(List Int))) (x7:Int) (b0_0:List (List Int)) (b1_0:Int) (b1_1:List Int):Option Int:=denAt ZJ.E ZJ.fn ZJ.enc [1,1,0,1,0] { fr:=[(2,.lf (.sl (.pr (.int .i64) (.sl 2 (.int .i64))) x2)),(3,.lf (.box 0 0)),(4,.lf (.box 1 0)),(7,.lf (.int .i64 x7))],ob:=[(0,.box 26 false [.sl (.sl 2 (.int .i64)) b0_0]),(1,.box 29 false [.int .i64 b1_0,.sl (.int .i64) b1_1])],nx:=2 }
theorem ZJ.f_eq (l0_0:List (List Int)) (a1_0:Int) (l1_1:List Int) (l2:List (Int×(List Int))):ZJ.f l0_0 a1_0 l1_1 l2=(Zs.f l0_0).bind fun t9=>if t9=true then((Zaj.f l0_0 a1_0 l1_1).bind fun t14=>if t14=true then(ZJ.l0 l2 0 l0_0 a1_0 l1_1)else(some 1))else(some 1):=by kernel_rfl
theorem ZJ.l0_eq (x2:List (Int×(List Int))) (x7:Int) (b0_0:List (List Int)) (b1_0:Int) (b1_1:List Int):ZJ.l0 x2 x7 b0_0 b1_0 b1_1=if x7 < (x2.length:Int)then(if 0≤x7 then(if x7 < (x2.length:Int)then((Zbd.f b0_0 b1_0 b1_1 ((Ty.rd (.pr (.int .i64) (.sl 2 (.int .i64))) x2 x7).1) ((Ty.rd (.pr (.int .i64) (.sl 2 (.int .i64))) x2 x7).2)).bind fun t29=>if t29=true then(ZJ.l0 x2 (wrapI (x7+1)) b0_0 b1_0 b1_1)else(some 1))else none)else none)else(some 0):=(Zy _ _ _ _).trans (by kernel_rfl)
noncomputable def ZJ.con:Con:=⟨ZJ.fn.ins,ZJ.fn.outs,Int,fun x=>ZJ.f x.1 x.2.1 x.2.2.1 x.2.2.2.1,fun r=>((r,()),(()))⟩
theorem ZJ.valid:Valid Tryz.prog 42 ZJ.con:=fnV ZJ.fn ZJ.E ZJ.enc ⟨ttOk,(Zf Zs.valid (Zf Zaj.valid (Zf Zbd.valid Zaq)))⟩ Tryz.func42
end Go.Proofs.YtoljodiflhbohaaGreatDoor.P
namespace Go.Proofs.YtoljodiflhbohaaGreatDoor.P
open Go Go.RowKit Go.Proofs.YtoljodiflhbohaaGreatDoor.D
noncomputable def ZW.E:Env:={ tt:=TT,con:=[(91,ZN.con),(92,Zai.con),(94,Zat.con),(93,Za0.con)],frz:=[33],rows:=[],live:=[(4,[4,5,6,7,8,9,10,11]),(9,[4,5,6,7,8,9,10,11,12,13,14])],n:=81,pin:=0,nils:=[] }
noncomputable def ZW.fn:D.Fn:={ body:=Tryz.f43.body.getD .skip,res:=Tryz.f43.results.toList,ins:=[.agg [.v (.sl 27 (.sl 2 (.int .i64)))],.agg [.v (.int .i64),.v (.sl 2 (.int .i64))],.agg [.v (.int .i64),.v (.sl 2 (.int .i64))],.agg [.v (.int .i64),.v (.sl 2 (.int .i64))]],outs:=[.agg [.v (.int .i64),.own 2 true (.int .i64)]] }
def ZW.enc (y:lsd (flats ZW.fn.outs)×lsd (ios ZW.fn.ins)):Int×(List Int):=(y.1.1,y.1.2.1)
noncomputable def ZW.f (l0_0:List (List Int)) (a1_0:Int) (l1_1:List Int) (a2_0:Int) (l2_1:List Int) (a3_0:Int) (l3_1:List Int):Option (Int×(List Int)):=denF ZW.E ZW.fn ZW.enc (l0_0,a1_0,l1_1,a2_0,l2_1,a3_0,l3_1,())
noncomputable def ZW.l0 (x9:Int) (x11:Int) (b0_0:List (List Int)) (b1_0:Int) (b1_1:List Int) (b2_0:Int) (b2_1:List Int) (b3_0:Int) (b3_1:List Int) (b4_0:Int) (b5_0:Int) (r6:List Int):Option (Int×(List Int)):=denAt ZW.E ZW.fn ZW.enc [1,1,1,0,1,0] { fr:=[(4,.lf (.box 0 0)),(5,.lf (.box 1 0)),(6,.lf (.box 2 0)),(7,.lf (.box 3 0)),(8,.lf (.box 4 0)),(9,.lf (.int .i64 x9)),(10,.lf (.box 5 0)),(11,.lf (.int .i64 x11))],ob:=[(0,.box 26 false [.sl (.sl 2 (.int .i64)) b0_0]),(1,.box 29 false [.int .i64 b1_0,.sl (.int .i64) b1_1]),(2,.box 31 false [.int .i64 b2_0,.sl (.int .i64) b2_1]),(3,.box 31 false [.int .i64 b3_0,.sl (.int .i64) b3_1]),(4,.box 31 false [.int .i64 b4_0,.nil]),(5,.box 31 false [.int .i64 b5_0,.own 6]),(6,.row 2 true (.int .i64) r6)],nx:=7 }
noncomputable def ZW.l1 (x9:Int) (x11:Int) (x12:List Int) (x13:Int) (x14:Int) (b0_0:List (List Int)) (b1_0:Int) (b1_1:List Int) (b2_0:Int) (b2_1:List Int) (b3_0:Int) (b3_1:List Int) (b4_0:Int) (b5_0:Int) (r6:List Int):Option (Int×(List Int)):=denAt ZW.E ZW.fn ZW.enc [1,1,1,0,1,0,0,1,0,0,1,1,0,1,0] { fr:=[(4,.lf (.box 0 0)),(5,.lf (.box 1 0)),(6,.lf (.box 2 0)),(7,.lf (.box 3 0)),(8,.lf (.box 4 0)),(9,.lf (.int .i64 x9)),(10,.lf (.box 5 0)),(11,.lf (.int .i64 x11)),(12,.lf (.sl (.int .i64) x12)),(13,.lf (.int .i64 x13)),(14,.lf (.int .i64 x14))],ob:=[(0,.box 26 false [.sl (.sl 2 (.int .i64)) b0_0]),(1,.box 29 false [.int .i64 b1_0,.sl (.int .i64) b1_1]),(2,.box 31 false [.int .i64 b2_0,.sl (.int .i64) b2_1]),(3,.box 31 false [.int .i64 b3_0,.sl (.int .i64) b3_1]),(4,.box 31 false [.int .i64 b4_0,.nil]),(5,.box 31 false [.int .i64 b5_0,.own 6]),(6,.row 2 true (.int .i64) r6)],nx:=7 }
theorem ZW.f_eq (l0_0:List (List Int)) (a1_0:Int) (l1_1:List Int) (a2_0:Int) (l2_1:List Int) (a3_0:Int) (l3_1:List Int):ZW.f l0_0 a1_0 l1_1 a2_0 l2_1 a3_0 l3_1=ZW.l0 (wrapI (a2_0+a3_0)) 0 l0_0 a1_0 l1_1 a2_0 l2_1 a3_0 l3_1 0 (wrapI (a2_0+a3_0)) ([]:List Int):=by kernel_rfl
theorem ZW.l0_eq (x9:Int) (x11:Int) (b0_0:List (List Int)) (b1_0:Int) (b1_1:List Int) (b2_0:Int) (b2_1:List Int) (b3_0:Int) (b3_1:List Int) (b4_0:Int) (b5_0:Int) (r6:List Int):ZW.l0 x9 x11 b0_0 b1_0 b1_1 b2_0 b2_1 b3_0 b3_1 b4_0 b5_0 r6=(ZN.f b0_0 x9).bind fun t26=>if x11 < t26 then((Zai.f b0_0 x9 x11).bind fun t33=>ZW.l1 x9 x11 t33 0 0 b0_0 b1_0 b1_1 b2_0 b2_1 b3_0 b3_1 b4_0 b5_0 r6)else(some (b5_0,r6)):=(Zy _ _ _ _).trans (by kernel_rfl)
theorem ZW.l1_eq (x9:Int) (x11:Int) (x12:List Int) (x13:Int) (x14:Int) (b0_0:List (List Int)) (b1_0:Int) (b1_1:List Int) (b2_0:Int) (b2_1:List Int) (b3_0:Int) (b3_1:List Int) (b4_0:Int) (b5_0:Int) (r6:List Int):ZW.l1 x9 x11 x12 x13 x14 b0_0 b1_0 b1_1 b2_0 b2_1 b3_0 b3_1 b4_0 b5_0 r6=if x14 < b2_0 then(if 0≤x13 then(if x13 < (b0_0.length:Int)then(if 0≤x14 then(if x14 < (x12.length:Int)then(if 0≤rd x12 x14 then(if rd x12 x14 < ((row b0_0 x13).length:Int)then(ZW.l1 x9 x11 x12 (T b0_0 x13 (rd x12 x14)) (wrapI (x14+1)) b0_0 b1_0 b1_1 b2_0 b2_1 b3_0 b3_1 b4_0 b5_0 r6)else none)else none)else none)else none)else none)else none)else(if 0≤b2_0 then(if b2_0≤(x12.length:Int)then((Zat.f b0_0 b2_0 b2_1 (x12.take (b2_0:Int).toNat)).bind fun t59=>if 0≤x13 then(if x13 < (b1_1.length:Int)then(if 0≤b2_0 then(if b2_0≤(x12.length:Int)then((Zat.f b0_0 b3_0 b3_1 (x12.drop (b2_0:Int).toNat)).bind fun t72=>(Za0.f (wrapI ((wrapI (t59*(rd b1_1 x13)))*t72)) b1_0).bind fun t76=>if r6.length+([t76]:List Int).length≤17592186044416 then(ZW.l0 x9 (wrapI (x11+1)) b0_0 b1_0 b1_1 b2_0 b2_1 b3_0 b3_1 b4_0 b5_0 (r6++([t76]:List Int)))else none)else none)else none)else none)else none)else none)else none):=(Zy _ _ _ _).trans (by kernel_rfl)
noncomputable def ZW.con:Con:=⟨ZW.fn.ins,ZW.fn.outs,Int×(List Int),fun x=>ZW.f x.1 x.2.1 x.2.2.1 x.2.2.2.1 x.2.2.2.2.1 x.2.2.2.2.2.1 x.2.2.2.2.2.2.1,fun r=>((r.1,r.2,()),(()))⟩
theorem ZW.valid:Valid Tryz.prog 43 ZW.con:=fnV ZW.fn ZW.E ZW.enc ⟨ttOk,(Zf ZN.valid (Zf Zai.valid (Zf Zat.valid (Zf Za0.valid Zaq))))⟩ Tryz.func43
end Go.Proofs.YtoljodiflhbohaaGreatDoor.P
namespace Go.Proofs.YtoljodiflhbohaaGreatDoor.P
open Go Go.RowKit Go.Proofs.YtoljodiflhbohaaGreatDoor.D
noncomputable def Za.E:Env:={ tt:=TT,con:=[(42,ZJ.con),(43,ZW.con)],frz:=[],rows:=[16,23],live:=[(4,[5,6,7,8,9,10,12]),(6,[5,7,8,9,10,12])],n:=51,pin:=0,nils:=[] }
noncomputable def Za.fn:D.Fn:={ body:=Tryz.f7.body.getD .skip,res:=Tryz.f7.results.toList,ins:=[.agg [.v (.sl 27 (.sl 2 (.int .i64)))],.agg [.v (.int .i64),.v (.sl 2 (.int .i64))],.agg [.v (.int .i64),.v (.sl 2 (.int .i64))],.agg [.v (.int .i64),.v (.sl 2 (.int .i64))],.agg [.v (.int .i64),.v (.sl 2 (.int .i64))]],outs:=[.agg [.v (.int .i64),.own 2 true (.int .i64)],.one (.v (.int .i64))] }
def Za.enc (y:lsd (flats Za.fn.outs)×lsd (ios Za.fn.ins)):Int×(List Int)×Int:=(y.1.1,y.1.2.1,y.1.2.2.1)
noncomputable def Za.f (l0_0:List (List Int)) (a1_0:Int) (l1_1:List Int) (a2_0:Int) (l2_1:List Int) (a3_0:Int) (l3_1:List Int) (a4_0:Int) (l4_1:List Int):Option (Int×(List Int)×Int):=denF Za.E Za.fn Za.enc (l0_0,a1_0,l1_1,a2_0,l2_1,a3_0,l3_1,a4_0,l4_1,())
noncomputable def Za.j0 (x12:Int) (b0_0:List (List Int)) (b1_0:Int) (b1_1:List Int) (b2_0:Int) (b2_1:List Int) (b3_0:Int) (b3_1:List Int) (b4_0:Int) (b4_1:List Int) (b5_0:Int):Option (Int×(List Int)×Int):=denAt Za.E Za.fn Za.enc [1,1,1] { fr:=[(5,.lf (.box 0 0)),(6,.lf (.box 1 0)),(7,.lf (.box 2 0)),(8,.lf (.box 3 0)),(9,.lf (.box 4 0)),(10,.lf (.box 5 0)),(12,.lf (.int .i64 x12))],ob:=[(0,.box 26 false [.sl (.sl 2 (.int .i64)) b0_0]),(1,.box 29 false [.int .i64 b1_0,.sl (.int .i64) b1_1]),(2,.box 29 false [.int .i64 b2_0,.sl (.int .i64) b2_1]),(3,.box 31 false [.int .i64 b3_0,.sl (.int .i64) b3_1]),(4,.box 31 false [.int .i64 b4_0,.sl (.int .i64) b4_1]),(5,.box 31 false [.int .i64 b5_0,.nil])],nx:=6 }
noncomputable def Za.j1 (x12:Int) (b0_0:List (List Int)) (b1_0:Int) (b1_1:List Int) (b2_0:Int) (b2_1:List Int) (b3_0:Int) (b3_1:List Int) (b4_0:Int):Option (Int×(List Int)×Int):=denAt Za.E Za.fn Za.enc [1,1,1,1] { fr:=[(5,.lf (.box 0 0)),(7,.lf (.box 1 0)),(8,.lf (.box 2 0)),(9,.lf (.box 3 0)),(10,.lf (.box 4 0)),(12,.lf (.int .i64 x12))],ob:=[(0,.box 26 false [.sl (.sl 2 (.int .i64)) b0_0]),(1,.box 29 false [.int .i64 b1_0,.sl (.int .i64) b1_1]),(2,.box 31 false [.int .i64 b2_0,.sl (.int .i64) b2_1]),(3,.box 31 false [.int .i64 b3_0,.sl (.int .i64) b3_1]),(4,.box 31 false [.int .i64 b4_0,.nil])],nx:=5 }
theorem Za.f_eq (l0_0:List (List Int)) (a1_0:Int) (l1_1:List Int) (a2_0:Int) (l2_1:List Int) (a3_0:Int) (l3_1:List Int) (a4_0:Int) (l4_1:List Int):Za.f l0_0 a1_0 l1_1 a2_0 l2_1 a3_0 l3_1 a4_0 l4_1=(ZJ.f l0_0 a1_0 l1_1 ([(a3_0,l3_1)]:List (Int×(List Int)))).bind fun t17=>if t17=0 then((ZJ.f l0_0 a2_0 l2_1 ([(a4_0,l4_1)]:List (Int×(List Int)))).bind fun t24=>Za.j0 t24 l0_0 a1_0 l1_1 a2_0 l2_1 a3_0 l3_1 a4_0 l4_1 0)else(Za.j0 t17 l0_0 a1_0 l1_1 a2_0 l2_1 a3_0 l3_1 a4_0 l4_1 0):=by kernel_rfl
theorem Za.j0_eq (x12:Int) (b0_0:List (List Int)) (b1_0:Int) (b1_1:List Int) (b2_0:Int) (b2_1:List Int) (b3_0:Int) (b3_1:List Int) (b4_0:Int) (b4_1:List Int) (b5_0:Int):Za.j0 x12 b0_0 b1_0 b1_1 b2_0 b2_1 b3_0 b3_1 b4_0 b4_1 b5_0=if x12=0 then(if b1_0=b2_0 then(if(wrapI (b3_0+b4_0)) > 3 then(Za.j1 2 b0_0 b2_0 b2_1 b3_0 b3_1 b4_0 b4_1 b5_0)else(Za.j1 x12 b0_0 b2_0 b2_1 b3_0 b3_1 b4_0 b4_1 b5_0))else(Za.j1 2 b0_0 b2_0 b2_1 b3_0 b3_1 b4_0 b4_1 b5_0))else(Za.j1 x12 b0_0 b2_0 b2_1 b3_0 b3_1 b4_0 b4_1 b5_0):=by kernel_rfl
theorem Za.j1_eq (x12:Int) (b0_0:List (List Int)) (b1_0:Int) (b1_1:List Int) (b2_0:Int) (b2_1:List Int) (b3_0:Int) (b3_1:List Int) (b4_0:Int):Za.j1 x12 b0_0 b1_0 b1_1 b2_0 b2_1 b3_0 b3_1 b4_0=if x12=0 then((ZW.f b0_0 b1_0 b1_1 b2_0 b2_1 b3_0 b3_1).bind fun t50=>some (t50.1,t50.2,0))else(some (0,([]:List Int),x12)):=by kernel_rfl
noncomputable def Za.con:Con:=⟨Za.fn.ins,Za.fn.outs,Int×(List Int)×Int,fun x=>Za.f x.1 x.2.1 x.2.2.1 x.2.2.2.1 x.2.2.2.2.1 x.2.2.2.2.2.1 x.2.2.2.2.2.2.1 x.2.2.2.2.2.2.2.1 x.2.2.2.2.2.2.2.2.1,fun r=>((r.1,r.2.1,r.2.2,()),(()))⟩
theorem Za.valid:Valid Tryz.prog 7 Za.con:=fnV Za.fn Za.E Za.enc ⟨ttOk,(Zf ZJ.valid (Zf ZW.valid Zaq))⟩ Tryz.func7
end Go.Proofs.YtoljodiflhbohaaGreatDoor.P
namespace Go.Proofs.YtoljodiflhbohaaGreatDoor.P
open Go Go.RowKit Go.Proofs.YtoljodiflhbohaaGreatDoor.D
noncomputable def Zap.E:Env:={ tt:=TT,con:=[],frz:=[],rows:=[],live:=[(4,[0,1,5])],n:=26,pin:=0,nils:=[] }
noncomputable def Zap.fn:D.Fn:={ body:=Tryz.f44.body.getD .skip,res:=Tryz.f44.results.toList,ins:=[.one (.v (.sl 2 (.int .i64))),.one (.v (.sl 2 (.int .i64)))],outs:=[.one (.v .bool)] }
def Zap.enc (y:lsd (flats Zap.fn.outs)×lsd (ios Zap.fn.ins)):Bool:=y.1.1
noncomputable def Zap.f (l0:List Int) (l1:List Int):Option Bool:=denF Zap.E Zap.fn Zap.enc (l0,l1,())
noncomputable def Zap.l0 (x0:List Int) (x1:List Int) (x5:Int):Option Bool:=denAt Zap.E Zap.fn Zap.enc [1,1,0,1,0] { fr:=[(0,.lf (.sl (.int .i64) x0)),(1,.lf (.sl (.int .i64) x1)),(5,.lf (.int .i64 x5))],ob:=[],nx:=0 }
theorem Zap.f_eq (l0:List Int) (l1:List Int):Zap.f l0 l1=if(l0.length:Int)=(l1.length:Int)then(Zap.l0 l0 l1 0)else(some false):=by kernel_rfl
theorem Zap.l0_eq (x0:List Int) (x1:List Int) (x5:Int):Zap.l0 x0 x1 x5=if x5 < (x0.length:Int)then(if 0≤x5 then(if x5 < (x0.length:Int)then(if 0≤x5 then(if x5 < (x1.length:Int)then(if(rd x0 x5)=(rd x1 x5)then(Zap.l0 x0 x1 (wrapI (x5+1)))else(some false))else none)else none)else none)else none)else(some true):=(Zy _ _ _ _).trans (by kernel_rfl)
noncomputable def Zap.con:Con:=⟨Zap.fn.ins,Zap.fn.outs,Bool,fun x=>Zap.f x.1 x.2.1,fun r=>((r,()),(()))⟩
theorem Zap.valid:Valid Tryz.prog 44 Zap.con:=fnV Zap.fn Zap.E Zap.enc ⟨ttOk,Zaq⟩ Tryz.func44
end Go.Proofs.YtoljodiflhbohaaGreatDoor.P
namespace Go.Proofs.YtoljodiflhbohaaGreatDoor.P
open Go Go.RowKit Go.Proofs.YtoljodiflhbohaaGreatDoor.D
noncomputable def Zax.E:Env:={ tt:=TT,con:=[(44,Zap.con)],frz:=[],rows:=[],live:=[],n:=17,pin:=0,nils:=[] }
noncomputable def Zax.fn:D.Fn:={ body:=Tryz.f8.body.getD .skip,res:=Tryz.f8.results.toList,ins:=[.agg [.v (.int .i64),.v (.sl 2 (.int .i64))],.agg [.v (.int .i64),.v (.sl 2 (.int .i64))]],outs:=[.one (.v .bool)] }
def Zax.enc (y:lsd (flats Zax.fn.outs)×lsd (ios Zax.fn.ins)):Bool:=y.1.1
noncomputable def Zax.f (a0_0:Int) (l0_1:List Int) (a1_0:Int) (l1_1:List Int):Option Bool:=denF Zax.E Zax.fn Zax.enc (a0_0,l0_1,a1_0,l1_1,())
theorem Zax.f_eq (a0_0:Int) (l0_1:List Int) (a1_0:Int) (l1_1:List Int):Zax.f a0_0 l0_1 a1_0 l1_1=if a0_0=a1_0 then((Zap.f l0_1 l1_1).bind fun t15=>some (decide (t15=true)))else(some false):=by kernel_rfl
noncomputable def Zax.con:Con:=⟨Zax.fn.ins,Zax.fn.outs,Bool,fun x=>Zax.f x.1 x.2.1 x.2.2.1 x.2.2.2.1,fun r=>((r,()),(()))⟩
theorem Zax.valid:Valid Tryz.prog 8 Zax.con:=fnV Zax.fn Zax.E Zax.enc ⟨ttOk,(Zf Zap.valid Zaq)⟩ Tryz.func8
end Go.Proofs.YtoljodiflhbohaaGreatDoor.P
namespace Go.Proofs.YtoljodiflhbohaaGreatDoor.P
open Go Go.RowKit Go.Proofs.YtoljodiflhbohaaGreatDoor.D
noncomputable def Zo.E:Env:={ tt:=TT,con:=[(36,ZA.con),(37,Zaw.con)],frz:=[],rows:=[11],live:=[(4,[3,4,14,15,16])],n:=26,pin:=0,nils:=[] }
noncomputable def Zo.fn:D.Fn:={ body:=Tryz.f45.body.getD .skip,res:=Tryz.f45.results.toList,ins:=[.agg [.v (.sl 27 (.sl 2 (.int .i64)))],.agg [.v (.int .i64),.v (.sl 2 (.int .i64))],.one (.v (.sl 31 (.pr (.int .i64) (.sl 2 (.int .i64)))))],outs:=[.one (.v (.int .i64))] }
def Zo.enc (y:lsd (flats Zo.fn.outs)×lsd (ios Zo.fn.ins)):Int:=y.1.1
noncomputable def Zo.f (l0_0:List (List Int)) (a1_0:Int) (l1_1:List Int) (l2:List (Int×(List Int))):Option Int:=denF Zo.E Zo.fn Zo.enc (l0_0,a1_0,l1_1,l2,())
noncomputable def Zo.l0 (x14:List (Int×(List Int))) (x15:Int) (x16:Int) (b0_0:List (List Int)) (b1_0:Int) (b1_1:List Int):Option Int:=denAt Zo.E Zo.fn Zo.enc [1,1,0,1,0] { fr:=[(3,.lf (.box 0 0)),(4,.lf (.box 1 0)),(14,.lf (.sl (.pr (.int .i64) (.sl 2 (.int .i64))) x14)),(15,.lf (.int .i64 x15)),(16,.lf (.int .i64 x16))],ob:=[(0,.box 26 false [.sl (.sl 2 (.int .i64)) b0_0]),(1,.box 29 false [.int .i64 b1_0,.sl (.int .i64) b1_1])],nx:=2 }
theorem Zo.f_eq (l0_0:List (List Int)) (a1_0:Int) (l1_1:List Int) (l2:List (Int×(List Int))):Zo.f l0_0 a1_0 l1_1 l2=(ZA.f l0_0 ([(a1_0,l1_1)]:List (Int×(List Int)))).bind fun t12=>if t12=true then(Zo.l0 l2 (l2.length:Int) 0 l0_0 a1_0 l1_1)else(some 1):=by kernel_rfl
theorem Zo.l0_eq (x14:List (Int×(List Int))) (x15:Int) (x16:Int) (b0_0:List (List Int)) (b1_0:Int) (b1_1:List Int):Zo.l0 x14 x15 x16 b0_0 b1_0 b1_1=if x16 < x15 then(if 0≤x16 then(if x16 < (x14.length:Int)then((Zaw.f b0_0 b1_0 b1_1 ((Ty.rd (.pr (.int .i64) (.sl 2 (.int .i64))) x14 x16).1) ((Ty.rd (.pr (.int .i64) (.sl 2 (.int .i64))) x14 x16).2)).bind fun t23=>if t23=true then(Zo.l0 x14 x15 (wrapI (x16+1)) b0_0 b1_0 b1_1)else(some 1))else none)else none)else(some 0):=(Zy _ _ _ _).trans (by kernel_rfl)
noncomputable def Zo.con:Con:=⟨Zo.fn.ins,Zo.fn.outs,Int,fun x=>Zo.f x.1 x.2.1 x.2.2.1 x.2.2.2.1,fun r=>((r,()),(()))⟩
theorem Zo.valid:Valid Tryz.prog 45 Zo.con:=fnV Zo.fn Zo.E Zo.enc ⟨ttOk,(Zf ZA.valid (Zf Zaw.valid Zaq))⟩ Tryz.func45
end Go.Proofs.YtoljodiflhbohaaGreatDoor.P
namespace Go.Proofs.YtoljodiflhbohaaGreatDoor.P
open Go Go.RowKit Go.Proofs.YtoljodiflhbohaaGreatDoor.D
noncomputable def Z9.E:Env:={ tt:=TT,con:=[(40,ZY.con),(41,Zl.con)],frz:=[],rows:=[],live:=[(5,[3,4,6,9,10,11,30,31])],n:=79,pin:=0,nils:=[] }
noncomputable def Z9.fn:D.Fn:={ body:=Tryz.f96.body.getD .skip,res:=Tryz.f96.results.toList,ins:=[.agg [.v (.sl 27 (.sl 2 (.int .i64)))],.agg [.v (.int .i64),.v (.sl 2 (.int .i64))],.agg [.v (.int .i64),.v (.sl 2 (.int .i64))],.one (.v (.sl 2 (.int .i64)))],outs:=[.one (.v (.int .i64))] }
def Z9.enc (y:lsd (flats Z9.fn.outs)×lsd (ios Z9.fn.ins)):Int:=y.1.1
noncomputable def Z9.f (l0_0:List (List Int)) (a1_0:Int) (l1_1:List Int) (a2_0:Int) (l2_1:List Int) (l3:List Int):Option Int:=denF Z9.E Z9.fn Z9.enc (l0_0,a1_0,l1_1,a2_0,l2_1,l3,())
noncomputable def Z9.l0 (x3:List Int) (x9:Int) (x10:Int) (x11:Int) (x30:Int) (x31:Int) (b0_0:List (List Int)) (b1_0:Int) (b1_1:List Int):Option Int:=denAt Z9.E Z9.fn Z9.enc [1,1,1,1,0,1,0] { fr:=[(3,.lf (.sl (.int .i64) x3)),(4,.lf (.box 0 0)),(6,.lf (.box 1 0)),(9,.lf (.int .i64 x9)),(10,.lf (.int .i64 x10)),(11,.lf (.int .i64 x11)),(30,.lf (.int .i64 x30)),(31,.lf (.int .i64 x31))],ob:=[(0,.box 26 false [.sl (.sl 2 (.int .i64)) b0_0]),(1,.box 31 false [.int .i64 b1_0,.sl (.int .i64) b1_1])],nx:=2 }
theorem Z9.f_eq (l0_0:List (List Int)) (a1_0:Int) (l1_1:List Int) (a2_0:Int) (l2_1:List Int) (l3:List Int):Z9.f l0_0 a1_0 l1_1 a2_0 l2_1 l3=if 0 < (l3.length:Int)then(if 0≤rd l3 0 then(if rd l3 0 < (l1_1.length:Int)then(if 1≤(l3.length:Int)then((ZY.f a2_0 l2_1 l0_0 (l3.drop (1:Int).toNat)).bind fun t28=>Z9.l0 l3 (wrapI ((l3.length:Int) - 1)) (wrapI ((rd l1_1 (rd l3 0))*t28)) (-1) (wrapI ((l3.length:Int) - 1)) 0 l0_0 a2_0 l2_1)else none)else none)else none)else none:=by kernel_rfl
theorem Z9.l0_eq (x3:List Int) (x9:Int) (x10:Int) (x11:Int) (x30:Int) (x31:Int) (b0_0:List (List Int)) (b1_0:Int) (b1_1:List Int):Z9.l0 x3 x9 x10 x11 x30 x31 b0_0 b1_0 b1_1=if x31 < x30 then(if 0≤x31 then(if x31≤(x3.length:Int)then(if([]:List Int).length+(x3.take (x31:Int).toNat).length≤17592186044416 then(if 0≤x31 then(if x31 < (x3.length:Int)then(if 0≤wrapI (x31+1)then(if wrapI (x31+1) < (x3.length:Int)then((Zl.f b0_0 ([rd x3 x31,rd x3 (wrapI (x31+1))]:List Int)).bind fun t50=>if(([]:List Int)++(x3.take (x31:Int).toNat)).length+([t50]:List Int).length≤17592186044416 then(if 0≤wrapI (x31+2)then(if wrapI (x31+2)≤(x3.length:Int)then(if((([]:List Int)++(x3.take (x31:Int).toNat))++([t50]:List Int)).length+(x3.drop (wrapI (x31+2):Int).toNat).length≤17592186044416 then((ZY.f b1_0 b1_1 b0_0 (((([]:List Int)++(x3.take (x31:Int).toNat))++([t50]:List Int))++(x3.drop (wrapI (x31+2):Int).toNat))).bind fun t63=>Z9.l0 x3 x9 (wrapI (x10+(wrapI (x11*t63)))) (wrapI (0 - x11)) x30 (wrapI (x31+1)) b0_0 b1_0 b1_1)else none)else none)else none)else none)else none)else none)else none)else none)else none)else none)else none)else(if 0≤x9 then(if x9≤(x3.length:Int)then((ZY.f b1_0 b1_1 b0_0 (x3.take (x9:Int).toNat)).bind fun t76=>some (wrapI (x10+(wrapI (x11*t76)))))else none)else none):=(Zy _ _ _ _).trans (by kernel_rfl)
noncomputable def Z9.con:Con:=⟨Z9.fn.ins,Z9.fn.outs,Int,fun x=>Z9.f x.1 x.2.1 x.2.2.1 x.2.2.2.1 x.2.2.2.2.1 x.2.2.2.2.2.1,fun r=>((r,()),(()))⟩
theorem Z9.valid:Valid Tryz.prog 96 Z9.con:=fnV Z9.fn Z9.E Z9.enc ⟨ttOk,(Zf ZY.valid (Zf Zl.valid Zaq))⟩ Tryz.func96
end Go.Proofs.YtoljodiflhbohaaGreatDoor.P
namespace Go.Proofs.YtoljodiflhbohaaGreatDoor.P
open Go Go.RowKit Go.Proofs.YtoljodiflhbohaaGreatDoor.D
noncomputable def ZaK.E:Env:={ tt:=TT,con:=[(96,Z9.con)],frz:=[],rows:=[],live:=[],n:=11,pin:=0,nils:=[] }
noncomputable def ZaK.fn:D.Fn:={ body:=Tryz.f95.body.getD .skip,res:=Tryz.f95.results.toList,ins:=[.one (.v (.sl 2 (.int .i64))),.ptr true 26 [.v (.sl 27 (.sl 2 (.int .i64)))],.ptr true 29 [.v (.int .i64),.v (.sl 2 (.int .i64))],.ptr true 31 [.v (.int .i64),.v (.sl 2 (.int .i64))]],outs:=[.one (.v (.int .i64))] }
def ZaK.enc (y:lsd (flats ZaK.fn.outs)×lsd (ios ZaK.fn.ins)):Int:=y.1.1
noncomputable def ZaK.f (l0:List Int) (l1:List (List Int)) (a2_0:Int) (l2_1:List Int) (a3_0:Int) (l3_1:List Int):Option Int:=denF ZaK.E ZaK.fn ZaK.enc (l0,l1,a2_0,l2_1,a3_0,l3_1,())
theorem ZaK.f_eq (l0:List Int) (l1:List (List Int)) (a2_0:Int) (l2_1:List Int) (a3_0:Int) (l3_1:List Int):ZaK.f l0 l1 a2_0 l2_1 a3_0 l3_1=(Z9.f l1 a2_0 l2_1 a3_0 l3_1 l0).bind fun t10=>some t10:=by kernel_rfl
noncomputable def ZaK.con:Con:=⟨ZaK.fn.ins,ZaK.fn.outs,Int,fun x=>ZaK.f x.1 x.2.1 x.2.2.1 x.2.2.2.1 x.2.2.2.2.1 x.2.2.2.2.2.1,fun r=>((r,()),(()))⟩
theorem ZaK.valid:Valid Tryz.prog 95 ZaK.con:=fnV ZaK.fn ZaK.E ZaK.enc ⟨ttOk,(Zf Z9.valid Zaq)⟩ Tryz.func95
end Go.Proofs.YtoljodiflhbohaaGreatDoor.P
namespace Go.Proofs.YtoljodiflhbohaaGreatDoor.P
open Go Go.RowKit Go.Proofs.YtoljodiflhbohaaGreatDoor.D
noncomputable def ZaX.E:Env:={ tt:=TT,con:=[(38,Za7.con),(95,ZaK.con)],frz:=[],rows:=[],live:=[],n:=15,pin:=0,nils:=[] }
noncomputable def ZaX.fn:D.Fn:={ body:=Tryz.f46.body.getD .skip,res:=Tryz.f46.results.toList,ins:=[.agg [.v (.sl 27 (.sl 2 (.int .i64)))],.agg [.v (.int .i64),.v (.sl 2 (.int .i64))],.agg [.v (.int .i64),.v (.sl 2 (.int .i64))]],outs:=[.agg [.v (.int .i64),.own 2 true (.int .i64)]] }
def ZaX.enc (y:lsd (flats ZaX.fn.outs)×lsd (ios ZaX.fn.ins)):Int×(List Int):=(y.1.1,y.1.2.1)
noncomputable def ZaX.f (l0_0:List (List Int)) (a1_0:Int) (l1_1:List Int) (a2_0:Int) (l2_1:List Int):Option (Int×(List Int)):=denF ZaX.E ZaX.fn ZaX.enc (l0_0,a1_0,l1_1,a2_0,l2_1,())
theorem ZaX.f_eq (l0_0:List (List Int)) (a1_0:Int) (l1_1:List Int) (a2_0:Int) (l2_1:List Int):ZaX.f l0_0 a1_0 l1_1 a2_0 l2_1=(Za7.f l0_0 a1_0 (wrapI (a2_0+1)) (fun z0=>(ZaK.f z0 l0_0 a1_0 l1_1 a2_0 l2_1).map fun z=>z)).bind fun t14=>some (t14.1,t14.2):=by kernel_rfl
noncomputable def ZaX.con:Con:=⟨ZaX.fn.ins,ZaX.fn.outs,Int×(List Int),fun x=>ZaX.f x.1 x.2.1 x.2.2.1 x.2.2.2.1 x.2.2.2.2.1,fun r=>((r.1,r.2,()),(()))⟩
theorem ZaX.valid:Valid Tryz.prog 46 ZaX.con:=fnV ZaX.fn ZaX.E ZaX.enc ⟨ttOk,(Zf Za7.valid (Zf ZaK.valid Zaq))⟩ Tryz.func46
end Go.Proofs.YtoljodiflhbohaaGreatDoor.P
namespace Go.Proofs.YtoljodiflhbohaaGreatDoor.P
open Go Go.RowKit Go.Proofs.YtoljodiflhbohaaGreatDoor.D
noncomputable def ZaC.E:Env:={ tt:=TT,con:=[(45,Zo.con),(46,ZaX.con)],frz:=[],rows:=[12],live:=[],n:=26,pin:=0,nils:=[] }
noncomputable def ZaC.fn:D.Fn:={ body:=Tryz.f9.body.getD .skip,res:=Tryz.f9.results.toList,ins:=[.agg [.v (.sl 27 (.sl 2 (.int .i64)))],.agg [.v (.int .i64),.v (.sl 2 (.int .i64))],.agg [.v (.int .i64),.v (.sl 2 (.int .i64))]],outs:=[.agg [.v (.int .i64),.own 2 true (.int .i64)],.one (.v (.int .i64))] }
def ZaC.enc (y:lsd (flats ZaC.fn.outs)×lsd (ios ZaC.fn.ins)):Int×(List Int)×Int:=(y.1.1,y.1.2.1,y.1.2.2.1)
noncomputable def ZaC.f (l0_0:List (List Int)) (a1_0:Int) (l1_1:List Int) (a2_0:Int) (l2_1:List Int):Option (Int×(List Int)×Int):=denF ZaC.E ZaC.fn ZaC.enc (l0_0,a1_0,l1_1,a2_0,l2_1,())
theorem ZaC.f_eq (l0_0:List (List Int)) (a1_0:Int) (l1_1:List Int) (a2_0:Int) (l2_1:List Int):ZaC.f l0_0 a1_0 l1_1 a2_0 l2_1=(Zo.f l0_0 a1_0 l1_1 ([(a2_0,l2_1)]:List (Int×(List Int)))).bind fun t13=>if t13=0 then(if a2_0=3 then(some (0,([]:List Int),2))else((ZaX.f l0_0 a1_0 l1_1 a2_0 l2_1).bind fun t25=>some (t25.1,t25.2,0)))else(some (0,([]:List Int),t13)):=by kernel_rfl
noncomputable def ZaC.con:Con:=⟨ZaC.fn.ins,ZaC.fn.outs,Int×(List Int)×Int,fun x=>ZaC.f x.1 x.2.1 x.2.2.1 x.2.2.2.1 x.2.2.2.2.1,fun r=>((r.1,r.2.1,r.2.2,()),(()))⟩
theorem ZaC.valid:Valid Tryz.prog 9 ZaC.con:=fnV ZaC.fn ZaC.E ZaC.enc ⟨ttOk,(Zf Zo.valid (Zf ZaX.valid Zaq))⟩ Tryz.func9
end Go.Proofs.YtoljodiflhbohaaGreatDoor.P
namespace Go.Proofs.YtoljodiflhbohaaGreatDoor.P
open Go Go.RowKit Go.Proofs.YtoljodiflhbohaaGreatDoor.D
noncomputable def Za9.E:Env:={ tt:=TT,con:=[],frz:=[],rows:=[],live:=[(3,[0,3,6,8,9,16,17,18])],n:=45,pin:=0,nils:=[8,9,14] }
noncomputable def Za9.fn:D.Fn:={ body:=Tryz.f47.body.getD .skip,res:=Tryz.f47.results.toList,ins:=[.one (.v (.int .i64)),.agg [.v (.int .i64),.v (.sl 2 (.int .i64))],.agg [.v (.int .i64),.v (.sl 2 (.int .i64))],.one (.v (.int .i64))],outs:=[.agg [.v (.int .i64),.own 2 true (.int .i64)]] }
def Za9.enc (y:lsd (flats Za9.fn.outs)×lsd (ios Za9.fn.ins)):Int×(List Int):=(y.1.1,y.1.2.1)
noncomputable def Za9.f (a0:Int) (a1_0:Int) (l1_1:List Int) (a2_0:Int) (l2_1:List Int) (a3:Int):Option (Int×(List Int)):=denF Za9.E Za9.fn Za9.enc (a0,a1_0,l1_1,a2_0,l2_1,a3,())
noncomputable def Za9.l0 (x0:Int) (x3:Int) (x16:List Int) (x17:Int) (x18:Int) (b0_0:Int) (b0_1:List Int) (b1_0:Int) (b2_0:Int) (r3:List Int) (r4:List Int):Option (Int×(List Int)):=denAt Za9.E Za9.fn Za9.enc [1,1,0,1,0] { fr:=[(0,.lf (.int .i64 x0)),(3,.lf (.int .i64 x3)),(6,.lf (.box 0 0)),(8,.lf (.box 1 0)),(9,.lf (.box 2 0)),(16,.lf (.sl (.int .i64) x16)),(17,.lf (.int .i64 x17)),(18,.lf (.int .i64 x18))],ob:=[(0,.box 31 false [.int .i64 b0_0,.sl (.int .i64) b0_1]),(1,.box 31 false [.int .i64 b1_0,.own 3]),(2,.box 31 false [.int .i64 b2_0,.own 4]),(3,.row 2 true (.int .i64) r3),(4,.row 2 true (.int .i64) r4)],nx:=5 }
theorem Za9.f_eq (a0:Int) (a1_0:Int) (l1_1:List Int) (a2_0:Int) (l2_1:List Int) (a3:Int):Za9.f a0 a1_0 l1_1 a2_0 l2_1 a3=Za9.l0 a0 a3 l1_1 (l1_1.length:Int) 0 a2_0 l2_1 0 a1_0 ([]:List Int) ([]:List Int):=by kernel_rfl
theorem Za9.l0_eq (x0:Int) (x3:Int) (x16:List Int) (x17:Int) (x18:Int) (b0_0:Int) (b0_1:List Int) (b1_0:Int) (b2_0:Int) (r3:List Int) (r4:List Int):Za9.l0 x0 x3 x16 x17 x18 b0_0 b0_1 b1_0 b2_0 r3 r4=if x18 < x17 then(if 0≤x18 then(if x18 < (x16.length:Int)then(if 0≤x18 then(if x18 < (b0_1.length:Int)then(if x0=0 then none else(if x0=0 then none else(if r4.length+([(wrapI (((wrapI ((rd x16 x18)+(wrapI (x3*(rd b0_1 x18)))):Int).tmod x0)+x0):Int).tmod x0]:List Int).length≤17592186044416 then(Za9.l0 x0 x3 x16 x17 (wrapI (x18+1)) b0_0 b0_1 b1_0 b2_0 r3 (r4++([(wrapI (((wrapI ((rd x16 x18)+(wrapI (x3*(rd b0_1 x18)))):Int).tmod x0)+x0):Int).tmod x0]:List Int)))else none)))else none)else none)else none)else none)else(some (b2_0,r4)):=(Zy _ _ _ _).trans (by kernel_rfl)
noncomputable def Za9.con:Con:=⟨Za9.fn.ins,Za9.fn.outs,Int×(List Int),fun x=>Za9.f x.1 x.2.1 x.2.2.1 x.2.2.2.1 x.2.2.2.2.1 x.2.2.2.2.2.1,fun r=>((r.1,r.2,()),(()))⟩
theorem Za9.valid:Valid Tryz.prog 47 Za9.con:=fnV Za9.fn Za9.E Za9.enc ⟨ttOk,Zaq⟩ Tryz.func47
end Go.Proofs.YtoljodiflhbohaaGreatDoor.P
namespace Go.Proofs.YtoljodiflhbohaaGreatDoor.P
open Go Go.RowKit Go.Proofs.YtoljodiflhbohaaGreatDoor.D
noncomputable def ZaE.E:Env:={ tt:=TT,con:=[(45,Zo.con),(47,Za9.con)],frz:=[],rows:=[17],live:=[],n:=43,pin:=0,nils:=[] }
noncomputable def ZaE.fn:D.Fn:={ body:=Tryz.f10.body.getD .skip,res:=Tryz.f10.results.toList,ins:=[.agg [.v (.sl 27 (.sl 2 (.int .i64)))],.agg [.v (.int .i64),.v (.sl 2 (.int .i64))],.agg [.v (.int .i64),.v (.sl 2 (.int .i64))],.agg [.v (.int .i64),.v (.sl 2 (.int .i64))],.one (.v (.int .i64))],outs:=[.agg [.v (.int .i64),.own 2 true (.int .i64)],.one (.v (.int .i64))] }
def ZaE.enc (y:lsd (flats ZaE.fn.outs)×lsd (ios ZaE.fn.ins)):Int×(List Int)×Int:=(y.1.1,y.1.2.1,y.1.2.2.1)
noncomputable def ZaE.f (l0_0:List (List Int)) (a1_0:Int) (l1_1:List Int) (a2_0:Int) (l2_1:List Int) (a3_0:Int) (l3_1:List Int) (a4:Int):Option (Int×(List Int)×Int):=denF ZaE.E ZaE.fn ZaE.enc (l0_0,a1_0,l1_1,a2_0,l2_1,a3_0,l3_1,a4,())
theorem ZaE.f_eq (l0_0:List (List Int)) (a1_0:Int) (l1_1:List Int) (a2_0:Int) (l2_1:List Int) (a3_0:Int) (l3_1:List Int) (a4:Int):ZaE.f l0_0 a1_0 l1_1 a2_0 l2_1 a3_0 l3_1 a4=(Zo.f l0_0 a1_0 l1_1 ([(a2_0,l2_1),(a3_0,l3_1)]:List (Int×(List Int)))).bind fun t18=>if t18=0 then(if a2_0=a3_0 then(if a4 < (-1000)then(some (0,([]:List Int),2))else(if a4 > 1000 then(some (0,([]:List Int),2))else((Za9.f a1_0 a2_0 l2_1 a3_0 l3_1 a4).bind fun t42=>some (t42.1,t42.2,0))))else(some (0,([]:List Int),2)))else(some (0,([]:List Int),t18)):=by kernel_rfl
noncomputable def ZaE.con:Con:=⟨ZaE.fn.ins,ZaE.fn.outs,Int×(List Int)×Int,fun x=>ZaE.f x.1 x.2.1 x.2.2.1 x.2.2.2.1 x.2.2.2.2.1 x.2.2.2.2.2.1 x.2.2.2.2.2.2.1 x.2.2.2.2.2.2.2.1,fun r=>((r.1,r.2.1,r.2.2,()),(()))⟩
theorem ZaE.valid:Valid Tryz.prog 10 ZaE.con:=fnV ZaE.fn ZaE.E ZaE.enc ⟨ttOk,(Zf Zo.valid (Zf Za9.valid Zaq))⟩ Tryz.func10
end Go.Proofs.YtoljodiflhbohaaGreatDoor.P
namespace Go.Proofs.YtoljodiflhbohaaGreatDoor.P
open Go Go.RowKit Go.Proofs.YtoljodiflhbohaaGreatDoor.D
noncomputable def Zg.E (c:Con):Env:={ tt:=TT,con:=[(49,c),(31,Zp.con),(50,Zah.con)],frz:=[104],rows:=[24,25],live:=[(6,[2,3,4,5,9,10,11]),(11,[2,3,4,5,9,10,11,12,13,14]),(15,[2,3,4,5,9,10,11,12,13,14,15])],n:=109,pin:=0,nils:=[13] }
noncomputable def Zg.fn:D.Fn:={ body:=Tryz.f49.body.getD .skip,res:=Tryz.f49.results.toList,ins:=[.agg [.v (.sl 27 (.sl 2 (.int .i64)))],.agg [.v (.sl 27 (.sl 2 (.int .i64)))],.one (.v (.sl 2 (.int .i64))),.one (.v .bool)],outs:=[.one (.own 27 false (.sl 2 (.int .i64)))] }
def Zg.enc (y:lsd (flats Zg.fn.outs)×lsd (ios Zg.fn.ins)):(List (List Int)):=y.1.1
noncomputable def Zg.cof (F:lsd (flats Zg.fn.ins)→Option (List (List Int))):Con:=⟨Zg.fn.ins,Zg.fn.outs,(List (List Int)),F,fun r=>((r,()),(()))⟩
noncomputable def Zg.fx:Nat→lsd (flats Zg.fn.ins)→Option (List (List Int))
 | 0=>fun _=>none
 | n+1=>fun x=>denF (Zg.E (Zg.cof (Zg.fx n))) Zg.fn Zg.enc x
noncomputable def Zg.cn (n:Nat):Con:=Zg.cof (Zg.fx n)
noncomputable def Zg.f (n:Nat) (l0_0:List (List Int)) (l1_0:List (List Int)) (l2:List Int) (a3:Bool):Option (List (List Int)):=Zg.fx n (l0_0,l1_0,l2,a3,())
noncomputable def Zg.l0 (n:Nat) (x2:List Int) (x3:Bool) (x9:Int) (x11:Int) (b0_0:List (List Int)) (b1_0:List (List Int)) (r2:List (List Int)):Option (List (List Int)):=denAt (Zg.E (Zg.cn n)) Zg.fn Zg.enc [1,1,1,1,0,1,0] { fr:=[(2,.lf (.sl (.int .i64) x2)),(3,.lf (ZdV x3)),(4,.lf (.box 0 0)),(5,.lf (.box 1 0)),(9,.lf (.int .i64 x9)),(10,.lf (.own 2)),(11,.lf (.int .i64 x11))],ob:=[(0,.box 26 false [.sl (.sl 2 (.int .i64)) b0_0]),(1,.box 26 false [.sl (.sl 2 (.int .i64)) b1_0]),(2,.row 27 false (.sl 2 (.int .i64)) r2)],nx:=3 }
noncomputable def Zg.l1 (n:Nat) (x2:List Int) (x3:Bool) (x9:Int) (x11:Int) (x13:Bool) (x14:Int) (b0_0:List (List Int)) (b1_0:List (List Int)) (r2:List (List Int)) (r3:List Int):Option (List (List Int)):=denAt (Zg.E (Zg.cn n)) Zg.fn Zg.enc [1,1,1,1,0,1,0,0,1,0,0,1,1,0,1,0] { fr:=[(2,.lf (.sl (.int .i64) x2)),(3,.lf (ZdV x3)),(4,.lf (.box 0 0)),(5,.lf (.box 1 0)),(9,.lf (.int .i64 x9)),(10,.lf (.own 2)),(11,.lf (.int .i64 x11)),(12,.lf (.own 3)),(13,.lf (ZdV x13)),(14,.lf (.int .i64 x14))],ob:=[(0,.box 26 false [.sl (.sl 2 (.int .i64)) b0_0]),(1,.box 26 false [.sl (.sl 2 (.int .i64)) b1_0]),(2,.row 27 false (.sl 2 (.int .i64)) r2),(3,.row 2 true (.int .i64) r3)],nx:=4 }
noncomputable def Zg.l2 (n:Nat) (x2:List Int) (x3:Bool) (x9:Int) (x11:Int) (x13:Bool) (x14:Int) (x15:Int) (b0_0:List (List Int)) (b1_0:List (List Int)) (r2:List (List Int)) (r3:List Int):Option (List (List Int)):=denAt (Zg.E (Zg.cn n)) Zg.fn Zg.enc [1,1,1,1,0,1,0,0,1,0,0,1,1,0,1,0,0,1,0,0,1,1,0] { fr:=[(2,.lf (.sl (.int .i64) x2)),(3,.lf (ZdV x3)),(4,.lf (.box 0 0)),(5,.lf (.box 1 0)),(9,.lf (.int .i64 x9)),(10,.lf (.own 2)),(11,.lf (.int .i64 x11)),(12,.lf (.own 3)),(13,.lf (ZdV x13)),(14,.lf (.int .i64 x14)),(15,.lf (.int .i64 x15))],ob:=[(0,.box 26 false [.sl (.sl 2 (.int .i64)) b0_0]),(1,.box 26 false [.sl (.sl 2 (.int .i64)) b1_0]),(2,.row 27 false (.sl 2 (.int .i64)) r2),(3,.row 2 true (.int .i64) r3)],nx:=4 }
theorem Zg.f_eq (n:Nat) (l0_0:List (List Int)) (l1_0:List (List Int)) (l2:List Int) (a3:Bool):Zg.f (n+1) l0_0 l1_0 l2 a3=(Zp.f l0_0).bind fun t21=>if(l2.length:Int)=t21 then(some ([l2]:List (List Int)))else(Zg.l0 n l2 a3 (l2.length:Int) 0 l0_0 l1_0 ([]:List (List Int))):=by kernel_rfl
theorem Zg.l0_eq (n:Nat) (x2:List Int) (x3:Bool) (x9:Int) (x11:Int) (b0_0:List (List Int)) (b1_0:List (List Int)) (r2:List (List Int)):Zg.l0 n x2 x3 x9 x11 b0_0 b1_0 r2=(Zp.f b1_0).bind fun t28=>if x11 < t28 then((Zah.f x2).bind fun t33=>if t33.length+([x11]:List Int).length≤17592186044416 then(Zg.l1 n x2 x3 x9 x11 true 0 b0_0 b1_0 r2 (t33++([x11]:List Int)))else none)else(some r2):=(Zy _ _ _ _).trans (by kernel_rfl)
theorem Zg.l1_eq (n:Nat) (x2:List Int) (x3:Bool) (x9:Int) (x11:Int) (x13:Bool) (x14:Int) (b0_0:List (List Int)) (b1_0:List (List Int)) (r2:List (List Int)) (r3:List Int):Zg.l1 n x2 x3 x9 x11 x13 x14 b0_0 b1_0 r2 r3=if x14≤x9 then(if x13=true then(if x3=true then(if x14=x9 then(Zg.l2 n x2 x3 x9 x11 true x14 0 b0_0 b1_0 r2 r3)else(if 0≤x14 then(if x14 < (r3.length:Int)then(if 0≤x14 then(if x14 < (r3.length:Int)then(Zg.l2 n x2 x3 x9 x11 (!decide ((rd r3 x14)=x11)) x14 0 b0_0 b1_0 r2 r3)else none)else none)else none)else none))else(Zg.l2 n x2 x3 x9 x11 true x14 0 b0_0 b1_0 r2 r3))else(if x13=true then((Zg.f n b0_0 b1_0 r3 (decide (x3=true))).bind fun t106=>if r2.length+t106.length≤5864062014805 then(Zg.l0 n x2 x3 x9 (wrapI (x11+1)) b0_0 b1_0 (r2++t106))else none)else(Zg.l0 n x2 x3 x9 (wrapI (x11+1)) b0_0 b1_0 r2)))else(if x13=true then((Zg.f n b0_0 b1_0 r3 (decide (x3=true))).bind fun t106=>if r2.length+t106.length≤5864062014805 then(Zg.l0 n x2 x3 x9 (wrapI (x11+1)) b0_0 b1_0 (r2++t106))else none)else(Zg.l0 n x2 x3 x9 (wrapI (x11+1)) b0_0 b1_0 r2)):=(Zy _ _ _ _).trans (by kernel_rfl)
theorem Zg.l2_eq (n:Nat) (x2:List Int) (x3:Bool) (x9:Int) (x11:Int) (x13:Bool) (x14:Int) (x15:Int) (b0_0:List (List Int)) (b1_0:List (List Int)) (r2:List (List Int)) (r3:List Int):Zg.l2 n x2 x3 x9 x11 x13 x14 x15 b0_0 b1_0 r2 r3=if x15≤x9 then(if x13=true then(if 0≤x14 then(if x14 < (b0_0.length:Int)then(if 0≤x15 then(if x15 < ((row b0_0 x14).length:Int)then(if(T b0_0 x14 x15) > x9 then(Zg.l2 n x2 x3 x9 x11 true x14 (wrapI (x15+1)) b0_0 b1_0 r2 r3)else(if 0≤T b0_0 x14 x15 then(if T b0_0 x14 x15 < (r3.length:Int)then(if 0≤T b0_0 x14 x15 then(if T b0_0 x14 x15 < (r3.length:Int)then(if 0≤x14 then(if x14 < (r3.length:Int)then(if 0≤x14 then(if x14 < (r3.length:Int)then(if 0≤rd r3 x14 then(if rd r3 x14 < (b1_0.length:Int)then(if 0≤x15 then(if x15 < (r3.length:Int)then(if 0≤x15 then(if x15 < (r3.length:Int)then(if 0≤rd r3 x15 then(if rd r3 x15 < ((row b1_0 (rd r3 x14)).length:Int)then(Zg.l2 n x2 x3 x9 x11 (decide ((rd r3 (T b0_0 x14 x15))=(T b1_0 (rd r3 x14) (rd r3 x15)))) x14 (wrapI (x15+1)) b0_0 b1_0 r2 r3)else none)else none)else none)else none)else none)else none)else none)else none)else none)else none)else none)else none)else none)else none)else none)else none))else none)else none)else none)else none)else(Zg.l1 n x2 x3 x9 x11 x13 (wrapI (x14+1)) b0_0 b1_0 r2 r3))else(Zg.l1 n x2 x3 x9 x11 x13 (wrapI (x14+1)) b0_0 b1_0 r2 r3):=(Zy _ _ _ _).trans (by kernel_rfl)
theorem Zg.vn:∀n,Valid Tryz.prog 49 (Zg.cn n)
 | 0=>ZdD ⟨_,Tryz.func49,by kernel_rfl,by kernel_rfl⟩
 | n+1=>ZdY (f:=Zg.fn) (E:=Zg.E (Zg.cn n)) (enc:=Zg.enc) ⟨ttOk,(Zf (Zg.vn n) (Zf Zp.valid (Zf Zah.valid Zaq)))⟩ (Checked.mixed Tryz.checked) ⟨Tryz.func49,by kernel_rfl,by kernel_rfl,by kernel_rfl,by kernel_rfl,of_decide_eq_true (by kernel_rfl),by kernel_rfl,by kernel_rfl⟩ (fun _=>rfl)
noncomputable def Zg.con:Con:=Zg.cn fuel
theorem Zg.valid:Valid Tryz.prog 49 Zg.con:=Zg.vn fuel
end Go.Proofs.YtoljodiflhbohaaGreatDoor.P
namespace Go.Proofs.YtoljodiflhbohaaGreatDoor.P
open Go Go.RowKit Go.Proofs.YtoljodiflhbohaaGreatDoor.D
noncomputable def ZG.E:Env:={ tt:=TT,con:=[(26,Zaa.con),(27,Zao.con),(48,Za1.con),(49,Zg.con),(28,Zr.con),(50,Zah.con),(34,ZV.con),(35,ZM.con),(31,Zp.con),(33,ZF.con)],frz:=[19,24,27,28,72],rows:=[],live:=[(8,[2,3,4,6,7,8,9,10,11,13,14])],n:=87,pin:=0,nils:=[] }
noncomputable def ZG.fn:D.Fn:={ body:=Tryz.f11.body.getD .skip,res:=Tryz.f11.results.toList,ins:=[.one (.v (.sl 5 (.int .u8)))],outs:=[.agg [.v (.sl 27 (.sl 2 (.int .i64)))],.agg [.v (.sl 27 (.sl 2 (.int .i64)))],.agg [.v (.int .i64),.v (.sl 2 (.int .i64))],.one (.own 2 true (.int .i64)),.agg [.v (.int .i64),.own 2 true (.int .i64)]] }
def ZG.enc (y:lsd (flats ZG.fn.outs)×lsd (ios ZG.fn.ins)):(List (List Int))×(List (List Int))×Int×(List Int)×(List Int)×Int×(List Int):=(y.1.1,y.1.2.1,y.1.2.2.1,y.1.2.2.2.1,y.1.2.2.2.2.1,y.1.2.2.2.2.2.1,y.1.2.2.2.2.2.2.1)
noncomputable def ZG.f (l0:List Int):Option ((List (List Int))×(List (List Int))×Int×(List Int)×(List Int)×Int×(List Int)):=denF ZG.E ZG.fn ZG.enc (l0,())
noncomputable def ZG.l0 (x14:Int) (b2_0:Int) (b3_0:Int) (b4_0:List Int) (b4_1:Int) (b4_2:Int) (b5_0:List (List Int)) (b6_0:Int) (b6_1:List Int) (b7_0:Int) (b7_1:List Int) (b8_0:List (List Int)) (r9:List Int):Option ((List (List Int))×(List (List Int))×Int×(List Int)×(List Int)×Int×(List Int)):=denAt ZG.E ZG.fn ZG.enc [1,1,1,1,1,0,1,1,1,0] { fr:=[(2,.lf (.box 0 0)),(3,.lf (.box 1 0)),(4,.lf (.box 2 0)),(6,.lf (.box 3 0)),(7,.lf (.box 4 0)),(8,.lf (.box 5 0)),(9,.lf (.box 6 0)),(10,.lf (.box 7 0)),(11,.lf (.box 8 0)),(13,.lf (.own 9)),(14,.lf (.int .i64 x14))],ob:=[(0,.box 26 false [.nil]),(1,.box 26 false [.nil]),(2,.box 29 false [.int .i64 b2_0,.nil]),(3,.box 31 false [.int .i64 b3_0,.nil]),(4,.box 102 false [.sl (.int .u8) b4_0,.int .i64 b4_1,.int .u64 b4_2]),(5,.box 26 false [.sl (.sl 2 (.int .i64)) b5_0]),(6,.box 29 false [.int .i64 b6_0,.sl (.int .i64) b6_1]),(7,.box 31 false [.int .i64 b7_0,.sl (.int .i64) b7_1]),(8,.box 26 false [.sl (.sl 2 (.int .i64)) b8_0]),(9,.row 2 true (.int .i64) r9)],nx:=10 }
theorem ZG.f_eq (l0:List Int):ZG.f l0=(Zaa.f l0).bind fun t16=>(Zao.f t16.1 t16.2.1 t16.2.2).bind fun t19=>(Za1.f t19.2.2.2.2.2.1 t19.2.2.2.2.2.2.1 t19.2.2.2.2.2.2.2).bind fun t24=>(Zg.f fuel t24.1 t19.1 ([]:List Int) false).bind fun t28=>(Zr.f t24.2.1 t24.2.2.1 t24.2.2.2 8).bind fun t31=>if t31.1 > 0 then(if(t28.length:Int) > 0 then((Zr.f t31.2.1 t31.2.2.1 t31.2.2.2 (t28.length:Int)).bind fun t42=>if 0≤t42.1 then(if t42.1 < (t28.length:Int)then((Zah.f (row t28 t42.1)).bind fun t45=>(Zr.f t42.2.1 t42.2.2.1 t42.2.2.2 20).bind fun t60=>if t60.1=0 then(if t45.length+([0]:List Int).length≤17592186044416 then((ZV.f t60.2.1 t60.2.2.1 t60.2.2.2 t24.1).bind fun t77=>(ZV.f t77.2.1 t77.2.2.1 t77.2.2.2 t19.1).bind fun t80=>(ZM.f t80.2.1 t80.2.2.1 t80.2.2.2 t19.2.1 t19.2.2.1 t19.2.2.2.1 t19.2.2.2.2.1).bind fun t86=>some (t77.1,t80.1,t19.2.1,t19.2.2.1,t45++([0]:List Int),t86.1,t86.2.1))else none)else(if t60.1=1 then((Zp.f t19.1).bind fun t71=>(ZF.f t60.2.1 t60.2.2.1 t60.2.2.2 ([-1,t71]:List Int)).bind fun t73=>if 0 < (t45.length:Int)then(if 0 < (t45.length:Int)then((ZV.f t73.2.1 t73.2.2.1 t73.2.2.2 t24.1).bind fun t77=>(ZV.f t77.2.1 t77.2.2.1 t77.2.2.2 t19.1).bind fun t80=>(ZM.f t80.2.1 t80.2.2.1 t80.2.2.2 t19.2.1 t19.2.2.1 t19.2.2.2.1 t19.2.2.2.2.1).bind fun t86=>some (t77.1,t80.1,t19.2.1,t19.2.2.1,t45.set (0:Int).toNat t73.1,t86.1,t86.2.1))else none)else none)else((ZV.f t60.2.1 t60.2.2.1 t60.2.2.2 t24.1).bind fun t77=>(ZV.f t77.2.1 t77.2.2.1 t77.2.2.2 t19.1).bind fun t80=>(ZM.f t80.2.1 t80.2.2.1 t80.2.2.2 t19.2.1 t19.2.2.1 t19.2.2.2.1 t19.2.2.2.2.1).bind fun t86=>some (t77.1,t80.1,t19.2.1,t19.2.2.1,t45,t86.1,t86.2.1))))else none)else none)else(ZG.l0 0 0 0 t31.2.1 t31.2.2.1 t31.2.2.2 t19.1 t19.2.1 t19.2.2.1 t19.2.2.2.1 t19.2.2.2.2.1 t24.1 ([]:List Int)))else(ZG.l0 0 0 0 t31.2.1 t31.2.2.1 t31.2.2.2 t19.1 t19.2.1 t19.2.2.1 t19.2.2.2.1 t19.2.2.2.2.1 t24.1 ([]:List Int)):=by kernel_rfl
theorem ZG.l0_eq (x14:Int) (b2_0:Int) (b3_0:Int) (b4_0:List Int) (b4_1:Int) (b4_2:Int) (b5_0:List (List Int)) (b6_0:Int) (b6_1:List Int) (b7_0:Int) (b7_1:List Int) (b8_0:List (List Int)) (r9:List Int):ZG.l0 x14 b2_0 b3_0 b4_0 b4_1 b4_2 b5_0 b6_0 b6_1 b7_0 b7_1 b8_0 r9=(Zp.f b8_0).bind fun t48=>if x14 < t48 then((Zp.f b5_0).bind fun t55=>(Zr.f b4_0 b4_1 b4_2 t55).bind fun t56=>if r9.length+([t56.1]:List Int).length≤17592186044416 then(ZG.l0 (wrapI (x14+1)) b2_0 b3_0 t56.2.1 t56.2.2.1 t56.2.2.2 b5_0 b6_0 b6_1 b7_0 b7_1 b8_0 (r9++([t56.1]:List Int)))else none)else((Zr.f b4_0 b4_1 b4_2 20).bind fun t60=>if t60.1=0 then(if r9.length+([0]:List Int).length≤17592186044416 then((ZV.f t60.2.1 t60.2.2.1 t60.2.2.2 b8_0).bind fun t77=>(ZV.f t77.2.1 t77.2.2.1 t77.2.2.2 b5_0).bind fun t80=>(ZM.f t80.2.1 t80.2.2.1 t80.2.2.2 b6_0 b6_1 b7_0 b7_1).bind fun t86=>some (t77.1,t80.1,b6_0,b6_1,r9++([0]:List Int),t86.1,t86.2.1))else none)else(if t60.1=1 then((Zp.f b5_0).bind fun t71=>(ZF.f t60.2.1 t60.2.2.1 t60.2.2.2 ([-1,t71]:List Int)).bind fun t73=>if 0 < (r9.length:Int)then(if 0 < (r9.length:Int)then((ZV.f t73.2.1 t73.2.2.1 t73.2.2.2 b8_0).bind fun t77=>(ZV.f t77.2.1 t77.2.2.1 t77.2.2.2 b5_0).bind fun t80=>(ZM.f t80.2.1 t80.2.2.1 t80.2.2.2 b6_0 b6_1 b7_0 b7_1).bind fun t86=>some (t77.1,t80.1,b6_0,b6_1,r9.set (0:Int).toNat t73.1,t86.1,t86.2.1))else none)else none)else((ZV.f t60.2.1 t60.2.2.1 t60.2.2.2 b8_0).bind fun t77=>(ZV.f t77.2.1 t77.2.2.1 t77.2.2.2 b5_0).bind fun t80=>(ZM.f t80.2.1 t80.2.2.1 t80.2.2.2 b6_0 b6_1 b7_0 b7_1).bind fun t86=>some (t77.1,t80.1,b6_0,b6_1,r9,t86.1,t86.2.1)))):=(Zy _ _ _ _).trans (by kernel_rfl)
noncomputable def ZG.con:Con:=⟨ZG.fn.ins,ZG.fn.outs,(List (List Int))×(List (List Int))×Int×(List Int)×(List Int)×Int×(List Int),fun x=>ZG.f x.1,fun r=>((r.1,r.2.1,r.2.2.1,r.2.2.2.1,r.2.2.2.2.1,r.2.2.2.2.2.1,r.2.2.2.2.2.2,()),(()))⟩
theorem ZG.valid:Valid Tryz.prog 11 ZG.con:=fnV ZG.fn ZG.E ZG.enc ⟨ttOk,(Zf Zaa.valid (Zf Zao.valid (Zf Za1.valid (Zf Zg.valid (Zf Zr.valid (Zf Zah.valid (Zf ZV.valid (Zf ZM.valid (Zf Zp.valid (Zf ZF.valid Zaq))))))))))⟩ Tryz.func11
end Go.Proofs.YtoljodiflhbohaaGreatDoor.P
namespace Go.Proofs.YtoljodiflhbohaaGreatDoor.P
open Go Go.RowKit Go.Proofs.YtoljodiflhbohaaGreatDoor.D
noncomputable def Zac.E:Env:={ tt:=TT,con:=[(83,Zq.con)],frz:=[],rows:=[],live:=[(2,[5,6,7])],n:=15,pin:=0,nils:=[] }
noncomputable def Zac.fn:D.Fn:={ body:=Tryz.f51.body.getD .skip,res:=Tryz.f51.results.toList,ins:=[.one (.v (.sl 26 (.sl 27 (.sl 2 (.int .i64)))))],outs:=[.one (.v .bool)] }
def Zac.enc (y:lsd (flats Zac.fn.outs)×lsd (ios Zac.fn.ins)):Bool:=y.1.1
noncomputable def Zac.f (l0:List (List (List Int))):Option Bool:=denF Zac.E Zac.fn Zac.enc (l0,())
noncomputable def Zac.l0 (x5:List (List (List Int))) (x6:Int) (x7:Int):Option Bool:=denAt Zac.E Zac.fn Zac.enc [1,0,1,0] { fr:=[(5,.lf (.sl (.sl 27 (.sl 2 (.int .i64))) x5)),(6,.lf (.int .i64 x6)),(7,.lf (.int .i64 x7))],ob:=[],nx:=0 }
theorem Zac.f_eq (l0:List (List (List Int))):Zac.f l0=Zac.l0 l0 (l0.length:Int) 0:=by kernel_rfl
theorem Zac.l0_eq (x5:List (List (List Int))) (x6:Int) (x7:Int):Zac.l0 x5 x6 x7=if x7 < x6 then(if 0≤x7 then(if x7 < (x5.length:Int)then((Zq.f (Ty.rd (.sl 27 (.sl 2 (.int .i64))) x5 x7)).bind fun t12=>if t12=true then(Zac.l0 x5 x6 (wrapI (x7+1)))else(some false))else none)else none)else(some true):=(Zy _ _ _ _).trans (by kernel_rfl)
noncomputable def Zac.con:Con:=⟨Zac.fn.ins,Zac.fn.outs,Bool,fun x=>Zac.f x.1,fun r=>((r,()),(()))⟩
theorem Zac.valid:Valid Tryz.prog 51 Zac.con:=fnV Zac.fn Zac.E Zac.enc ⟨ttOk,(Zf Zq.valid Zaq)⟩ Tryz.func51
end Go.Proofs.YtoljodiflhbohaaGreatDoor.P
namespace Go.Proofs.YtoljodiflhbohaaGreatDoor.P
open Go Go.RowKit Go.Proofs.YtoljodiflhbohaaGreatDoor.D
noncomputable def ZaT.E:Env:={ tt:=TT,con:=[(51,Zac.con),(61,ZX.con),(60,ZaH.con)],frz:=[],rows:=[10],live:=[],n:=26,pin:=0,nils:=[] }
noncomputable def ZaT.fn:D.Fn:={ body:=Tryz.f52.body.getD .skip,res:=Tryz.f52.results.toList,ins:=[.agg [.v (.sl 27 (.sl 2 (.int .i64)))],.agg [.v (.sl 27 (.sl 2 (.int .i64)))],.one (.v (.sl 2 (.int .i64)))],outs:=[.one (.v (.int .i64))] }
def ZaT.enc (y:lsd (flats ZaT.fn.outs)×lsd (ios ZaT.fn.ins)):Int:=y.1.1
noncomputable def ZaT.f (l0_0:List (List Int)) (l1_0:List (List Int)) (l2:List Int):Option Int:=denF ZaT.E ZaT.fn ZaT.enc (l0_0,l1_0,l2,())
theorem ZaT.f_eq (l0_0:List (List Int)) (l1_0:List (List Int)) (l2:List Int):ZaT.f l0_0 l1_0 l2=(Zac.f ([l0_0,l1_0]:List (List (List Int)))).bind fun t11=>if t11=true then((ZX.f l0_0).bind fun t17=>if(l2.length:Int)=t17 then((ZX.f l1_0).bind fun t21=>(ZaH.f t21 l2).bind fun t23=>if t23=true then(some 0)else(some 2))else(some 2))else(some 1):=by kernel_rfl
noncomputable def ZaT.con:Con:=⟨ZaT.fn.ins,ZaT.fn.outs,Int,fun x=>ZaT.f x.1 x.2.1 x.2.2.1,fun r=>((r,()),(()))⟩
theorem ZaT.valid:Valid Tryz.prog 52 ZaT.con:=fnV ZaT.fn ZaT.E ZaT.enc ⟨ttOk,(Zf Zac.valid (Zf ZX.valid (Zf ZaH.valid Zaq)))⟩ Tryz.func52
end Go.Proofs.YtoljodiflhbohaaGreatDoor.P
namespace Go.Proofs.YtoljodiflhbohaaGreatDoor.P
open Go Go.RowKit Go.Proofs.YtoljodiflhbohaaGreatDoor.D
noncomputable def Zm.E:Env:={ tt:=TT,con:=[(41,Zl.con)],frz:=[],rows:=[],live:=[(3,[2,3,4,7,13,14]),(6,[2,3,4,7,8,13,14,17,18])],n:=49,pin:=0,nils:=[] }
noncomputable def Zm.fn:D.Fn:={ body:=Tryz.f53.body.getD .skip,res:=Tryz.f53.results.toList,ins:=[.agg [.v (.sl 27 (.sl 2 (.int .i64)))],.agg [.v (.sl 27 (.sl 2 (.int .i64)))],.one (.v (.sl 2 (.int .i64)))],outs:=[.one (.v .bool)] }
def Zm.enc (y:lsd (flats Zm.fn.outs)×lsd (ios Zm.fn.ins)):Bool:=y.1.1
noncomputable def Zm.f (l0_0:List (List Int)) (l1_0:List (List Int)) (l2:List Int):Option Bool:=denF Zm.E Zm.fn Zm.enc (l0_0,l1_0,l2,())
noncomputable def Zm.l0 (x2:List Int) (x7:Int) (x13:Int) (x14:Int) (b0_0:List (List Int)) (b1_0:List (List Int)):Option Bool:=denAt Zm.E Zm.fn Zm.enc [1,1,0,1,0] { fr:=[(2,.lf (.sl (.int .i64) x2)),(3,.lf (.box 0 0)),(4,.lf (.box 1 0)),(7,.lf (.int .i64 x7)),(13,.lf (.int .i64 x13)),(14,.lf (.int .i64 x14))],ob:=[(0,.box 26 false [.sl (.sl 2 (.int .i64)) b0_0]),(1,.box 26 false [.sl (.sl 2 (.int .i64)) b1_0])],nx:=2 }
noncomputable def Zm.l1 (x2:List Int) (x7:Int) (x8:Int) (x13:Int) (x14:Int) (x17:Int) (x18:Int) (b0_0:List (List Int)) (b1_0:List (List Int)):Option Bool:=denAt Zm.E Zm.fn Zm.enc [1,1,0,1,0,0,1,1,0,0,1,1,0] { fr:=[(2,.lf (.sl (.int .i64) x2)),(3,.lf (.box 0 0)),(4,.lf (.box 1 0)),(7,.lf (.int .i64 x7)),(8,.lf (.int .i64 x8)),(13,.lf (.int .i64 x13)),(14,.lf (.int .i64 x14)),(17,.lf (.int .i64 x17)),(18,.lf (.int .i64 x18))],ob:=[(0,.box 26 false [.sl (.sl 2 (.int .i64)) b0_0]),(1,.box 26 false [.sl (.sl 2 (.int .i64)) b1_0])],nx:=2 }
theorem Zm.f_eq (l0_0:List (List Int)) (l1_0:List (List Int)) (l2:List Int):Zm.f l0_0 l1_0 l2=Zm.l0 l2 (l2.length:Int) (l2.length:Int) 0 l0_0 l1_0:=by kernel_rfl
theorem Zm.l0_eq (x2:List Int) (x7:Int) (x13:Int) (x14:Int) (b0_0:List (List Int)) (b1_0:List (List Int)):Zm.l0 x2 x7 x13 x14 b0_0 b1_0=if x14 < x13 then(Zm.l1 x2 x7 x14 x13 x14 x7 0 b0_0 b1_0)else(some true):=(Zy _ _ _ _).trans (by kernel_rfl)
theorem Zm.l1_eq (x2:List Int) (x7:Int) (x8:Int) (x13:Int) (x14:Int) (x17:Int) (x18:Int) (b0_0:List (List Int)) (b1_0:List (List Int)):Zm.l1 x2 x7 x8 x13 x14 x17 x18 b0_0 b1_0=if x18 < x17 then((Zl.f b0_0 ([x8,x18]:List Int)).bind fun t25=>if t25 < x7 then(if 0≤t25 then(if t25 < (x2.length:Int)then(if 0≤x8 then(if x8 < (x2.length:Int)then(if 0≤x18 then(if x18 < (x2.length:Int)then((Zl.f b1_0 ([rd x2 x8,rd x2 x18]:List Int)).bind fun t44=>if(rd x2 t25)=t44 then(Zm.l1 x2 x7 x8 x13 x14 x17 (wrapI (x18+1)) b0_0 b1_0)else(some false))else none)else none)else none)else none)else none)else none)else(Zm.l1 x2 x7 x8 x13 x14 x17 (wrapI (x18+1)) b0_0 b1_0))else(Zm.l0 x2 x7 x13 (wrapI (x14+1)) b0_0 b1_0):=(Zy _ _ _ _).trans (by kernel_rfl)
noncomputable def Zm.con:Con:=⟨Zm.fn.ins,Zm.fn.outs,Bool,fun x=>Zm.f x.1 x.2.1 x.2.2.1,fun r=>((r,()),(()))⟩
theorem Zm.valid:Valid Tryz.prog 53 Zm.con:=fnV Zm.fn Zm.E Zm.enc ⟨ttOk,(Zf Zl.valid Zaq)⟩ Tryz.func53
end Go.Proofs.YtoljodiflhbohaaGreatDoor.P
namespace Go.Proofs.YtoljodiflhbohaaGreatDoor.P
open Go Go.RowKit Go.Proofs.YtoljodiflhbohaaGreatDoor.D
noncomputable def ZaM.E:Env:={ tt:=TT,con:=[(61,ZX.con)],frz:=[],rows:=[],live:=[(3,[2,6,7,12,13])],n:=26,pin:=0,nils:=[6,7,10] }
noncomputable def ZaM.fn:D.Fn:={ body:=Tryz.f123.body.getD .skip,res:=Tryz.f123.results.toList,ins:=[.agg [.v (.sl 27 (.sl 2 (.int .i64)))],.one (.v (.int .i64)),.one (.fn [(.int .i64)] (.int .i64))],outs:=[.agg [.v (.int .i64),.own 2 true (.int .i64)]] }
def ZaM.enc (y:lsd (flats ZaM.fn.outs)×lsd (ios ZaM.fn.ins)):Int×(List Int):=(y.1.1,y.1.2.1)
noncomputable def ZaM.f (l0_0:List (List Int)) (a1:Int) (f2:Int→Option Int):Option (Int×(List Int)):=denF ZaM.E ZaM.fn ZaM.enc (l0_0,a1,fun x=>f2 x.1,())
noncomputable def ZaM.l0 (fx2:Int→Option Int) (x12:Int) (x13:Int) (b0_0:Int) (b1_0:Int) (r2:List Int) (r3:List Int):Option (Int×(List Int)):=denAt ZaM.E ZaM.fn ZaM.enc [1,1,0,1,0] { fr:=[(2,.lf (.fn [(.int .i64)] (.int .i64) (fun x=>fx2 x.1))),(6,.lf (.box 0 0)),(7,.lf (.box 1 0)),(12,.lf (.int .i64 x12)),(13,.lf (.int .i64 x13))],ob:=[(0,.box 29 false [.int .i64 b0_0,.own 2]),(1,.box 29 false [.int .i64 b1_0,.own 3]),(2,.row 2 true (.int .i64) r2),(3,.row 2 true (.int .i64) r3)],nx:=4 }
theorem ZaM.f_eq (l0_0:List (List Int)) (a1:Int) (f2:Int→Option Int):ZaM.f l0_0 a1 f2=(ZX.f l0_0).bind fun t12=>ZaM.l0 f2 t12 0 0 a1 ([]:List Int) ([]:List Int):=by kernel_rfl
theorem ZaM.l0_eq (fx2:Int→Option Int) (x12:Int) (x13:Int) (b0_0:Int) (b1_0:Int) (r2:List Int) (r3:List Int):ZaM.l0 fx2 x12 x13 b0_0 b1_0 r2 r3=if x13 < x12 then((fx2 x13).bind fun t20=>if r3.length+([t20]:List Int).length≤17592186044416 then(ZaM.l0 fx2 x12 (wrapI (x13+1)) b0_0 b1_0 r2 (r3++([t20]:List Int)))else none)else(some (b1_0,r3)):=(Zy _ _ _ _).trans (by kernel_rfl)
noncomputable def ZaM.con:Con:=⟨ZaM.fn.ins,ZaM.fn.outs,Int×(List Int),fun x=>ZaM.f x.1 x.2.1 (fun z0=>x.2.2.1 (z0,())),fun r=>((r.1,r.2,()),(()))⟩
theorem ZaM.valid:Valid Tryz.prog 123 ZaM.con:=fnV ZaM.fn ZaM.E ZaM.enc ⟨ttOk,(Zf ZX.valid Zaq)⟩ Tryz.func123
end Go.Proofs.YtoljodiflhbohaaGreatDoor.P
namespace Go.Proofs.YtoljodiflhbohaaGreatDoor.P
open Go Go.RowKit Go.Proofs.YtoljodiflhbohaaGreatDoor.D
noncomputable def Zar.E:Env:={ tt:=TT,con:=[],frz:=[],rows:=[],live:=[],n:=13,pin:=0,nils:=[] }
noncomputable def Zar.fn:D.Fn:={ body:=Tryz.f124.body.getD .skip,res:=Tryz.f124.results.toList,ins:=[.one (.v (.int .i64)),.ptr true 29 [.v (.int .i64),.v (.sl 2 (.int .i64))],.ptr true 27 [.v (.sl 2 (.int .i64))]],outs:=[.one (.v (.int .i64))] }
def Zar.enc (y:lsd (flats Zar.fn.outs)×lsd (ios Zar.fn.ins)):Int:=y.1.1
noncomputable def Zar.f (a0:Int) (a1_0:Int) (l1_1:List Int) (l2:List Int):Option Int:=denF Zar.E Zar.fn Zar.enc (a0,a1_0,l1_1,l2,())
theorem Zar.f_eq (a0:Int) (a1_0:Int) (l1_1:List Int) (l2:List Int):Zar.f a0 a1_0 l1_1 l2=if 0≤a0 then(if a0 < (l2.length:Int)then(if 0≤rd l2 a0 then(if rd l2 a0 < (l1_1.length:Int)then(some (rd l1_1 (rd l2 a0)))else none)else none)else none)else none:=by kernel_rfl
noncomputable def Zar.con:Con:=⟨Zar.fn.ins,Zar.fn.outs,Int,fun x=>Zar.f x.1 x.2.1 x.2.2.1 x.2.2.2.1,fun r=>((r,()),(()))⟩
theorem Zar.valid:Valid Tryz.prog 124 Zar.con:=fnV Zar.fn Zar.E Zar.enc ⟨ttOk,Zaq⟩ Tryz.func124
end Go.Proofs.YtoljodiflhbohaaGreatDoor.P
namespace Go.Proofs.YtoljodiflhbohaaGreatDoor.P
open Go Go.RowKit Go.Proofs.YtoljodiflhbohaaGreatDoor.D
noncomputable def ZaU.E:Env:={ tt:=TT,con:=[(123,ZaM.con),(124,Zar.con)],frz:=[],rows:=[],live:=[],n:=12,pin:=0,nils:=[] }
noncomputable def ZaU.fn:D.Fn:={ body:=Tryz.f100.body.getD .skip,res:=Tryz.f100.results.toList,ins:=[.agg [.v (.sl 27 (.sl 2 (.int .i64)))],.one (.v (.sl 2 (.int .i64))),.agg [.v (.int .i64),.v (.sl 2 (.int .i64))]],outs:=[.agg [.v (.int .i64),.own 2 true (.int .i64)]] }
def ZaU.enc (y:lsd (flats ZaU.fn.outs)×lsd (ios ZaU.fn.ins)):Int×(List Int):=(y.1.1,y.1.2.1)
noncomputable def ZaU.f (l0_0:List (List Int)) (l1:List Int) (a2_0:Int) (l2_1:List Int):Option (Int×(List Int)):=denF ZaU.E ZaU.fn ZaU.enc (l0_0,l1,a2_0,l2_1,())
theorem ZaU.f_eq (l0_0:List (List Int)) (l1:List Int) (a2_0:Int) (l2_1:List Int):ZaU.f l0_0 l1 a2_0 l2_1=(ZaM.f l0_0 a2_0 (fun z0=>(Zar.f z0 a2_0 l2_1 l1).map fun z=>z)).bind fun t11=>some (t11.1,t11.2):=by kernel_rfl
noncomputable def ZaU.con:Con:=⟨ZaU.fn.ins,ZaU.fn.outs,Int×(List Int),fun x=>ZaU.f x.1 x.2.1 x.2.2.1 x.2.2.2.1,fun r=>((r.1,r.2,()),(()))⟩
theorem ZaU.valid:Valid Tryz.prog 100 ZaU.con:=fnV ZaU.fn ZaU.E ZaU.enc ⟨ttOk,(Zf ZaM.valid (Zf Zar.valid Zaq))⟩ Tryz.func100
end Go.Proofs.YtoljodiflhbohaaGreatDoor.P
namespace Go.Proofs.YtoljodiflhbohaaGreatDoor.P
open Go Go.RowKit Go.Proofs.YtoljodiflhbohaaGreatDoor.D
noncomputable def ZaP.E:Env:={ tt:=TT,con:=[],frz:=[],rows:=[],live:=[(3,[1,5,9,10,11])],n:=23,pin:=0,nils:=[] }
noncomputable def ZaP.fn:D.Fn:={ body:=Tryz.f64.body.getD .skip,res:=Tryz.f64.results.toList,ins:=[.one (.v (.sl 2 (.int .i64))),.one (.fn [(.int .i64)] (.int .i64))],outs:=[.one (.own 2 true (.int .i64))] }
def ZaP.enc (y:lsd (flats ZaP.fn.outs)×lsd (ios ZaP.fn.ins)):(List Int):=y.1.1
noncomputable def ZaP.f (l0:List Int) (f1:Int→Option Int):Option (List Int):=denF ZaP.E ZaP.fn ZaP.enc (l0,fun x=>f1 x.1,())
noncomputable def ZaP.l0 (fx1:Int→Option Int) (x9:List Int) (x10:Int) (x11:Int) (r0:List Int):Option (List Int):=denAt ZaP.E ZaP.fn ZaP.enc [1,1,0,1,0] { fr:=[(1,.lf (.fn [(.int .i64)] (.int .i64) (fun x=>fx1 x.1))),(5,.lf (.own 0)),(9,.lf (.sl (.int .i64) x9)),(10,.lf (.int .i64 x10)),(11,.lf (.int .i64 x11))],ob:=[(0,.row 2 true (.int .i64) r0)],nx:=1 }
theorem ZaP.f_eq (l0:List Int) (f1:Int→Option Int):ZaP.f l0 f1=ZaP.l0 f1 l0 (l0.length:Int) 0 ([]:List Int):=by kernel_rfl
theorem ZaP.l0_eq (fx1:Int→Option Int) (x9:List Int) (x10:Int) (x11:Int) (r0:List Int):ZaP.l0 fx1 x9 x10 x11 r0=if x11 < x10 then(if 0≤x11 then(if x11 < (x9.length:Int)then((fx1 (rd x9 x11)).bind fun t18=>if r0.length+([t18]:List Int).length≤17592186044416 then(ZaP.l0 fx1 x9 x10 (wrapI (x11+1)) (r0++([t18]:List Int)))else none)else none)else none)else(some r0):=(Zy _ _ _ _).trans (by kernel_rfl)
noncomputable def ZaP.con:Con:=⟨ZaP.fn.ins,ZaP.fn.outs,(List Int),fun x=>ZaP.f x.1 (fun z0=>x.2.1 (z0,())),fun r=>((r,()),(()))⟩
theorem ZaP.valid:Valid Tryz.prog 64 ZaP.con:=fnV ZaP.fn ZaP.E ZaP.enc ⟨ttOk,Zaq⟩ Tryz.func64
end Go.Proofs.YtoljodiflhbohaaGreatDoor.P
namespace Go.Proofs.YtoljodiflhbohaaGreatDoor.P
open Go Go.RowKit Go.Proofs.YtoljodiflhbohaaGreatDoor.D
noncomputable def ZaL.E:Env:={ tt:=TT,con:=[],frz:=[],rows:=[],live:=[],n:=8,pin:=0,nils:=[] }
noncomputable def ZaL.fn:D.Fn:={ body:=Tryz.f102.body.getD .skip,res:=Tryz.f102.results.toList,ins:=[.one (.v (.int .i64)),.ptr true 27 [.v (.sl 2 (.int .i64))]],outs:=[.one (.v (.int .i64))] }
def ZaL.enc (y:lsd (flats ZaL.fn.outs)×lsd (ios ZaL.fn.ins)):Int:=y.1.1
noncomputable def ZaL.f (a0:Int) (l1:List Int):Option Int:=denF ZaL.E ZaL.fn ZaL.enc (a0,l1,())
theorem ZaL.f_eq (a0:Int) (l1:List Int):ZaL.f a0 l1=if 0≤a0 then(if a0 < (l1.length:Int)then(some (rd l1 a0))else none)else none:=by kernel_rfl
noncomputable def ZaL.con:Con:=⟨ZaL.fn.ins,ZaL.fn.outs,Int,fun x=>ZaL.f x.1 x.2.1,fun r=>((r,()),(()))⟩
theorem ZaL.valid:Valid Tryz.prog 102 ZaL.con:=fnV ZaL.fn ZaL.E ZaL.enc ⟨ttOk,Zaq⟩ Tryz.func102
end Go.Proofs.YtoljodiflhbohaaGreatDoor.P
namespace Go.Proofs.YtoljodiflhbohaaGreatDoor.P
open Go Go.RowKit Go.Proofs.YtoljodiflhbohaaGreatDoor.D
noncomputable def Za6.E:Env:={ tt:=TT,con:=[(64,ZaP.con),(102,ZaL.con),(40,ZY.con)],frz:=[],rows:=[],live:=[],n:=12,pin:=0,nils:=[] }
noncomputable def Za6.fn:D.Fn:={ body:=Tryz.f101.body.getD .skip,res:=Tryz.f101.results.toList,ins:=[.one (.v (.sl 2 (.int .i64))),.ptr true 31 [.v (.int .i64),.v (.sl 2 (.int .i64))],.ptr true 26 [.v (.sl 27 (.sl 2 (.int .i64)))],.ptr true 27 [.v (.sl 2 (.int .i64))]],outs:=[.one (.v (.int .i64))] }
def Za6.enc (y:lsd (flats Za6.fn.outs)×lsd (ios Za6.fn.ins)):Int:=y.1.1
noncomputable def Za6.f (l0:List Int) (a1_0:Int) (l1_1:List Int) (l2:List (List Int)) (l3:List Int):Option Int:=denF Za6.E Za6.fn Za6.enc (l0,a1_0,l1_1,l2,l3,())
theorem Za6.f_eq (l0:List Int) (a1_0:Int) (l1_1:List Int) (l2:List (List Int)) (l3:List Int):Za6.f l0 a1_0 l1_1 l2 l3=(ZaP.f l0 (fun z0=>(ZaL.f z0 l3).map fun z=>z)).bind fun t10=>(ZY.f a1_0 l1_1 l2 t10).bind fun t11=>some t11:=by kernel_rfl
noncomputable def Za6.con:Con:=⟨Za6.fn.ins,Za6.fn.outs,Int,fun x=>Za6.f x.1 x.2.1 x.2.2.1 x.2.2.2.1 x.2.2.2.2.1,fun r=>((r,()),(()))⟩
theorem Za6.valid:Valid Tryz.prog 101 Za6.con:=fnV Za6.fn Za6.E Za6.enc ⟨ttOk,(Zf ZaP.valid (Zf ZaL.valid (Zf ZY.valid Zaq)))⟩ Tryz.func101
end Go.Proofs.YtoljodiflhbohaaGreatDoor.P
namespace Go.Proofs.YtoljodiflhbohaaGreatDoor.P
open Go Go.RowKit Go.Proofs.YtoljodiflhbohaaGreatDoor.D
noncomputable def Zbk.E:Env:={ tt:=TT,con:=[(100,ZaU.con),(38,Za7.con),(101,Za6.con)],frz:=[],rows:=[],live:=[],n:=23,pin:=0,nils:=[] }
noncomputable def Zbk.fn:D.Fn:={ body:=Tryz.f54.body.getD .skip,res:=Tryz.f54.results.toList,ins:=[.agg [.v (.sl 27 (.sl 2 (.int .i64)))],.agg [.v (.sl 27 (.sl 2 (.int .i64)))],.agg [.v (.int .i64),.v (.sl 2 (.int .i64))],.one (.v (.sl 2 (.int .i64))),.agg [.v (.int .i64),.v (.sl 2 (.int .i64))]],outs:=[.agg [.v (.int .i64),.own 2 true (.int .i64)],.agg [.v (.int .i64),.own 2 true (.int .i64)]] }
def Zbk.enc (y:lsd (flats Zbk.fn.outs)×lsd (ios Zbk.fn.ins)):Int×(List Int)×Int×(List Int):=(y.1.1,y.1.2.1,y.1.2.2.1,y.1.2.2.2.1)
noncomputable def Zbk.f (l0_0:List (List Int)) (l1_0:List (List Int)) (a2_0:Int) (l2_1:List Int) (l3:List Int) (a4_0:Int) (l4_1:List Int):Option (Int×(List Int)×Int×(List Int)):=denF Zbk.E Zbk.fn Zbk.enc (l0_0,l1_0,a2_0,l2_1,l3,a4_0,l4_1,())
theorem Zbk.f_eq (l0_0:List (List Int)) (l1_0:List (List Int)) (a2_0:Int) (l2_1:List Int) (l3:List Int) (a4_0:Int) (l4_1:List Int):Zbk.f l0_0 l1_0 a2_0 l2_1 l3 a4_0 l4_1=(ZaU.f l0_0 l3 a2_0 l2_1).bind fun t15=>(Za7.f l0_0 a2_0 a4_0 (fun z0=>(Za6.f z0 a4_0 l4_1 l1_0 l3).map fun z=>z)).bind fun t22=>some (t15.1,t15.2,t22.1,t22.2):=by kernel_rfl
noncomputable def Zbk.con:Con:=⟨Zbk.fn.ins,Zbk.fn.outs,Int×(List Int)×Int×(List Int),fun x=>Zbk.f x.1 x.2.1 x.2.2.1 x.2.2.2.1 x.2.2.2.2.1 x.2.2.2.2.2.1 x.2.2.2.2.2.2.1,fun r=>((r.1,r.2.1,r.2.2.1,r.2.2.2,()),(()))⟩
theorem Zbk.valid:Valid Tryz.prog 54 Zbk.con:=fnV Zbk.fn Zbk.E Zbk.enc ⟨ttOk,(Zf ZaU.valid (Zf Za7.valid (Zf Za6.valid Zaq)))⟩ Tryz.func54
end Go.Proofs.YtoljodiflhbohaaGreatDoor.P
namespace Go.Proofs.YtoljodiflhbohaaGreatDoor.P
open Go Go.RowKit Go.Proofs.YtoljodiflhbohaaGreatDoor.D
noncomputable def ZaQ.E:Env:={ tt:=TT,con:=[(51,Zac.con),(36,ZA.con),(37,Zaw.con),(52,ZaT.con),(53,Zm.con),(54,Zbk.con)],frz:=[],rows:=[18,24],live:=[],n:=64,pin:=0,nils:=[] }
noncomputable def ZaQ.fn:D.Fn:={ body:=Tryz.f12.body.getD .skip,res:=Tryz.f12.results.toList,ins:=[.agg [.v (.sl 27 (.sl 2 (.int .i64)))],.agg [.v (.sl 27 (.sl 2 (.int .i64)))],.agg [.v (.int .i64),.v (.sl 2 (.int .i64))],.one (.v (.sl 2 (.int .i64))),.agg [.v (.int .i64),.v (.sl 2 (.int .i64))]],outs:=[.agg [.v (.int .i64),.own 2 true (.int .i64)],.agg [.v (.int .i64),.own 2 true (.int .i64)],.one (.v (.int .i64))] }
def ZaQ.enc (y:lsd (flats ZaQ.fn.outs)×lsd (ios ZaQ.fn.ins)):Int×(List Int)×Int×(List Int)×Int:=(y.1.1,y.1.2.1,y.1.2.2.1,y.1.2.2.2.1,y.1.2.2.2.2.1)
noncomputable def ZaQ.f (l0_0:List (List Int)) (l1_0:List (List Int)) (a2_0:Int) (l2_1:List Int) (l3:List Int) (a4_0:Int) (l4_1:List Int):Option (Int×(List Int)×Int×(List Int)×Int):=denF ZaQ.E ZaQ.fn ZaQ.enc (l0_0,l1_0,a2_0,l2_1,l3,a4_0,l4_1,())
theorem ZaQ.f_eq (l0_0:List (List Int)) (l1_0:List (List Int)) (a2_0:Int) (l2_1:List Int) (l3:List Int) (a4_0:Int) (l4_1:List Int):ZaQ.f l0_0 l1_0 a2_0 l2_1 l3 a4_0 l4_1=(Zac.f ([l0_0,l1_0]:List (List (List Int)))).bind fun t19=>if t19=true then((ZA.f l1_0 ([(a2_0,l2_1)]:List (Int×(List Int)))).bind fun t25=>if t25=true then((Zaw.f l1_0 a2_0 l2_1 a4_0 l4_1).bind fun t32=>if t32=true then((ZaT.f l0_0 l1_0 l3).bind fun t40=>if t40=0 then((Zm.f l0_0 l1_0 l3).bind fun t49=>if t49=true then((Zbk.f l0_0 l1_0 a2_0 l2_1 l3 a4_0 l4_1).bind fun t59=>some (t59.1,t59.2.1,t59.2.2.1,t59.2.2.2,0))else(some (0,([]:List Int),0,([]:List Int),5)))else(some (0,([]:List Int),0,([]:List Int),t40)))else(some (0,([]:List Int),0,([]:List Int),1)))else(some (0,([]:List Int),0,([]:List Int),1)))else(some (0,([]:List Int),0,([]:List Int),1)):=by kernel_rfl
noncomputable def ZaQ.con:Con:=⟨ZaQ.fn.ins,ZaQ.fn.outs,Int×(List Int)×Int×(List Int)×Int,fun x=>ZaQ.f x.1 x.2.1 x.2.2.1 x.2.2.2.1 x.2.2.2.2.1 x.2.2.2.2.2.1 x.2.2.2.2.2.2.1,fun r=>((r.1,r.2.1,r.2.2.1,r.2.2.2.1,r.2.2.2.2,()),(()))⟩
theorem ZaQ.valid:Valid Tryz.prog 12 ZaQ.con:=fnV ZaQ.fn ZaQ.E ZaQ.enc ⟨ttOk,(Zf Zac.valid (Zf ZA.valid (Zf Zaw.valid (Zf ZaT.valid (Zf Zm.valid (Zf Zbk.valid Zaq))))))⟩ Tryz.func12
end Go.Proofs.YtoljodiflhbohaaGreatDoor.P
namespace Go.Proofs.YtoljodiflhbohaaGreatDoor.P
open Go Go.RowKit Go.Proofs.YtoljodiflhbohaaGreatDoor.D
noncomputable def ZQ.E:Env:={ tt:=TT,con:=[(55,Zs.con),(31,Zp.con),(74,ZaZ.con)],frz:=[],rows:=[],live:=[(4,[1,2,5])],n:=24,pin:=0,nils:=[] }
noncomputable def ZQ.fn:D.Fn:={ body:=Tryz.f56.body.getD .skip,res:=Tryz.f56.results.toList,ins:=[.agg [.v (.sl 27 (.sl 2 (.int .i64)))],.one (.v (.sl 2 (.int .i64)))],outs:=[.one (.v (.int .i64))] }
def ZQ.enc (y:lsd (flats ZQ.fn.outs)×lsd (ios ZQ.fn.ins)):Int:=y.1.1
noncomputable def ZQ.f (l0_0:List (List Int)) (l1:List Int):Option Int:=denF ZQ.E ZQ.fn ZQ.enc (l0_0,l1,())
noncomputable def ZQ.l0 (x1:List Int) (x5:Int) (b0_0:List (List Int)):Option Int:=denAt ZQ.E ZQ.fn ZQ.enc [1,1,0,1,0] { fr:=[(1,.lf (.sl (.int .i64) x1)),(2,.lf (.box 0 0)),(5,.lf (.int .i64 x5))],ob:=[(0,.box 26 false [.sl (.sl 2 (.int .i64)) b0_0])],nx:=1 }
theorem ZQ.f_eq (l0_0:List (List Int)) (l1:List Int):ZQ.f l0_0 l1=(Zs.f l0_0).bind fun t7=>if t7=true then(ZQ.l0 l1 0 l0_0)else(some 1):=by kernel_rfl
theorem ZQ.l0_eq (x1:List Int) (x5:Int) (b0_0:List (List Int)):ZQ.l0 x1 x5 b0_0=if x5 < (x1.length:Int)then(if 0≤x5 then(if x5 < (x1.length:Int)then((Zp.f b0_0).bind fun t20=>(ZaZ.f (rd x1 x5) 0 (wrapI (t20 - 1))).bind fun t22=>if t22=true then(ZQ.l0 x1 (wrapI (x5+1)) b0_0)else(some 2))else none)else none)else(some 0):=(Zy _ _ _ _).trans (by kernel_rfl)
noncomputable def ZQ.con:Con:=⟨ZQ.fn.ins,ZQ.fn.outs,Int,fun x=>ZQ.f x.1 x.2.1,fun r=>((r,()),(()))⟩
theorem ZQ.valid:Valid Tryz.prog 56 ZQ.con:=fnV ZQ.fn ZQ.E ZQ.enc ⟨ttOk,(Zf Zs.valid (Zf Zp.valid (Zf ZaZ.valid Zaq)))⟩ Tryz.func56
end Go.Proofs.YtoljodiflhbohaaGreatDoor.P
namespace Go.Proofs.YtoljodiflhbohaaGreatDoor.P
open Go Go.RowKit Go.Proofs.YtoljodiflhbohaaGreatDoor.D
noncomputable def Zk.E:Env:={ tt:=TT,con:=[(31,Zp.con)],frz:=[],rows:=[],live:=[(2,[2,3,4,7]),(5,[2,3,4,7,8])],n:=47,pin:=0,nils:=[] }
noncomputable def Zk.fn:D.Fn:={ body:=Tryz.f57.body.getD .skip,res:=Tryz.f57.results.toList,ins:=[.agg [.v (.sl 27 (.sl 2 (.int .i64)))],.agg [.v (.sl 27 (.sl 2 (.int .i64)))],.one (.v (.sl 2 (.int .i64)))],outs:=[.one (.v .bool)] }
def Zk.enc (y:lsd (flats Zk.fn.outs)×lsd (ios Zk.fn.ins)):Bool:=y.1.1
noncomputable def Zk.f (l0_0:List (List Int)) (l1_0:List (List Int)) (l2:List Int):Option Bool:=denF Zk.E Zk.fn Zk.enc (l0_0,l1_0,l2,())
noncomputable def Zk.l0 (x2:List Int) (x7:Int) (b0_0:List (List Int)) (b1_0:List (List Int)):Option Bool:=denAt Zk.E Zk.fn Zk.enc [1,0,1,0] { fr:=[(2,.lf (.sl (.int .i64) x2)),(3,.lf (.box 0 0)),(4,.lf (.box 1 0)),(7,.lf (.int .i64 x7))],ob:=[(0,.box 26 false [.sl (.sl 2 (.int .i64)) b0_0]),(1,.box 26 false [.sl (.sl 2 (.int .i64)) b1_0])],nx:=2 }
noncomputable def Zk.l1 (x2:List Int) (x7:Int) (x8:Int) (b0_0:List (List Int)) (b1_0:List (List Int)):Option Bool:=denAt Zk.E Zk.fn Zk.enc [1,0,1,0,0,1,0,0,1,0] { fr:=[(2,.lf (.sl (.int .i64) x2)),(3,.lf (.box 0 0)),(4,.lf (.box 1 0)),(7,.lf (.int .i64 x7)),(8,.lf (.int .i64 x8))],ob:=[(0,.box 26 false [.sl (.sl 2 (.int .i64)) b0_0]),(1,.box 26 false [.sl (.sl 2 (.int .i64)) b1_0])],nx:=2 }
theorem Zk.f_eq (l0_0:List (List Int)) (l1_0:List (List Int)) (l2:List Int):Zk.f l0_0 l1_0 l2=Zk.l0 l2 0 l0_0 l1_0:=by kernel_rfl
theorem Zk.l0_eq (x2:List Int) (x7:Int) (b0_0:List (List Int)) (b1_0:List (List Int)):Zk.l0 x2 x7 b0_0 b1_0=(Zp.f b0_0).bind fun t11=>if x7 < t11 then(Zk.l1 x2 x7 0 b0_0 b1_0)else(some true):=(Zy _ _ _ _).trans (by kernel_rfl)
theorem Zk.l1_eq (x2:List Int) (x7:Int) (x8:Int) (b0_0:List (List Int)) (b1_0:List (List Int)):Zk.l1 x2 x7 x8 b0_0 b1_0=(Zp.f b0_0).bind fun t17=>if x8 < t17 then(if 0≤x7 then(if x7 < (b0_0.length:Int)then(if 0≤x8 then(if x8 < ((row b0_0 x7).length:Int)then(if 0≤T b0_0 x7 x8 then(if T b0_0 x7 x8 < (x2.length:Int)then(if 0≤x7 then(if x7 < (x2.length:Int)then(if 0≤rd x2 x7 then(if rd x2 x7 < (b1_0.length:Int)then(if 0≤x8 then(if x8 < (x2.length:Int)then(if 0≤rd x2 x8 then(if rd x2 x8 < ((row b1_0 (rd x2 x7)).length:Int)then(if(rd x2 (T b0_0 x7 x8))=(T b1_0 (rd x2 x7) (rd x2 x8))then(Zk.l1 x2 x7 (wrapI (x8+1)) b0_0 b1_0)else(some false))else none)else none)else none)else none)else none)else none)else none)else none)else none)else none)else none)else none)else none)else none)else(Zk.l0 x2 (wrapI (x7+1)) b0_0 b1_0):=(Zy _ _ _ _).trans (by kernel_rfl)
noncomputable def Zk.con:Con:=⟨Zk.fn.ins,Zk.fn.outs,Bool,fun x=>Zk.f x.1 x.2.1 x.2.2.1,fun r=>((r,()),(()))⟩
theorem Zk.valid:Valid Tryz.prog 57 Zk.con:=fnV Zk.fn Zk.E Zk.enc ⟨ttOk,(Zf Zp.valid Zaq)⟩ Tryz.func57
end Go.Proofs.YtoljodiflhbohaaGreatDoor.P
namespace Go.Proofs.YtoljodiflhbohaaGreatDoor.P
open Go Go.RowKit Go.Proofs.YtoljodiflhbohaaGreatDoor.D
noncomputable def ZL.E:Env:={ tt:=TT,con:=[(31,Zp.con),(91,ZN.con),(92,Zai.con),(94,Zat.con)],frz:=[],rows:=[],live:=[(3,[2,5,6,8,9,10,11,12,13,14]),(7,[2,5,8,9,10,11,12,13,15]),(11,[2,5,8,9,10,11,12,13,15,16,17])],n:=85,pin:=0,nils:=[] }
noncomputable def ZL.fn:D.Fn:={ body:=Tryz.f58.body.getD .skip,res:=Tryz.f58.results.toList,ins:=[.agg [.v (.sl 27 (.sl 2 (.int .i64)))],.agg [.v (.int .i64),.v (.sl 2 (.int .i64))],.one (.v (.sl 2 (.int .i64))),.agg [.v (.sl 27 (.sl 2 (.int .i64)))],.agg [.v (.int .i64),.v (.sl 2 (.int .i64))]],outs:=[.agg [.v (.int .i64),.own 2 true (.int .i64)],.agg [.v (.int .i64),.own 2 true (.int .i64)]] }
def ZL.enc (y:lsd (flats ZL.fn.outs)×lsd (ios ZL.fn.ins)):Int×(List Int)×Int×(List Int):=(y.1.1,y.1.2.1,y.1.2.2.1,y.1.2.2.2.1)
noncomputable def ZL.f (l0_0:List (List Int)) (a1_0:Int) (l1_1:List Int) (l2:List Int) (l3_0:List (List Int)) (a4_0:Int) (l4_1:List Int):Option (Int×(List Int)×Int×(List Int)):=denF ZL.E ZL.fn ZL.enc (l0_0,a1_0,l1_1,l2,l3_0,a4_0,l4_1,())
noncomputable def ZL.l0 (x2:List Int) (x14:Int) (b0_0:List (List Int)) (b1_0:Int) (b1_1:List Int) (b2_0:List (List Int)) (b3_0:Int) (b3_1:List Int) (b4_0:Int) (b5_0:Int) (b6_0:Int) (b7_0:Int) (r8:List Int) (r9:List Int):Option (Int×(List Int)×Int×(List Int)):=denAt ZL.E ZL.fn ZL.enc [1,1,0,1,0] { fr:=[(2,.lf (.sl (.int .i64) x2)),(5,.lf (.box 0 0)),(6,.lf (.box 1 0)),(8,.lf (.box 2 0)),(9,.lf (.box 3 0)),(10,.lf (.box 4 0)),(11,.lf (.box 5 0)),(12,.lf (.box 6 0)),(13,.lf (.box 7 0)),(14,.lf (.int .i64 x14))],ob:=[(0,.box 26 false [.sl (.sl 2 (.int .i64)) b0_0]),(1,.box 29 false [.int .i64 b1_0,.sl (.int .i64) b1_1]),(2,.box 26 false [.sl (.sl 2 (.int .i64)) b2_0]),(3,.box 31 false [.int .i64 b3_0,.sl (.int .i64) b3_1]),(4,.box 29 false [.int .i64 b4_0,.nil]),(5,.box 31 false [.int .i64 b5_0,.nil]),(6,.box 29 false [.int .i64 b6_0,.own 8]),(7,.box 31 false [.int .i64 b7_0,.own 9]),(8,.row 2 true (.int .i64) r8),(9,.row 2 true (.int .i64) r9)],nx:=10 }
noncomputable def ZL.l1 (x2:List Int) (x15:Int) (b0_0:List (List Int)) (b1_0:List (List Int)) (b2_0:Int) (b2_1:List Int) (b3_0:Int) (b4_0:Int) (b5_0:Int) (b6_0:Int) (r7:List Int) (r8:List Int):Option (Int×(List Int)×Int×(List Int)):=denAt ZL.E ZL.fn ZL.enc [1,1,1,0,1,0] { fr:=[(2,.lf (.sl (.int .i64) x2)),(5,.lf (.box 0 0)),(8,.lf (.box 1 0)),(9,.lf (.box 2 0)),(10,.lf (.box 3 0)),(11,.lf (.box 4 0)),(12,.lf (.box 5 0)),(13,.lf (.box 6 0)),(15,.lf (.int .i64 x15))],ob:=[(0,.box 26 false [.sl (.sl 2 (.int .i64)) b0_0]),(1,.box 26 false [.sl (.sl 2 (.int .i64)) b1_0]),(2,.box 31 false [.int .i64 b2_0,.sl (.int .i64) b2_1]),(3,.box 29 false [.int .i64 b3_0,.nil]),(4,.box 31 false [.int .i64 b4_0,.nil]),(5,.box 29 false [.int .i64 b5_0,.own 7]),(6,.box 31 false [.int .i64 b6_0,.own 8]),(7,.row 2 true (.int .i64) r7),(8,.row 2 true (.int .i64) r8)],nx:=9 }
noncomputable def ZL.l2 (x2:List Int) (x15:Int) (x17:Int) (b0_0:List (List Int)) (b1_0:List (List Int)) (b2_0:Int) (b2_1:List Int) (b3_0:Int) (b4_0:Int) (b5_0:Int) (b6_0:Int) (r7:List Int) (r8:List Int) (r9:List Int):Option (Int×(List Int)×Int×(List Int)):=denAt ZL.E ZL.fn ZL.enc [1,1,1,0,1,0,0,1,0,0,1,0,1,0] { fr:=[(2,.lf (.sl (.int .i64) x2)),(5,.lf (.box 0 0)),(8,.lf (.box 1 0)),(9,.lf (.box 2 0)),(10,.lf (.box 3 0)),(11,.lf (.box 4 0)),(12,.lf (.box 5 0)),(13,.lf (.box 6 0)),(15,.lf (.int .i64 x15)),(16,.lf (.own 7)),(17,.lf (.int .i64 x17))],ob:=[(0,.box 26 false [.sl (.sl 2 (.int .i64)) b0_0]),(1,.box 26 false [.sl (.sl 2 (.int .i64)) b1_0]),(2,.box 31 false [.int .i64 b2_0,.sl (.int .i64) b2_1]),(3,.box 29 false [.int .i64 b3_0,.nil]),(4,.box 31 false [.int .i64 b4_0,.nil]),(5,.box 29 false [.int .i64 b5_0,.own 8]),(6,.box 31 false [.int .i64 b6_0,.own 9]),(7,.row 2 true (.int .i64) r7),(8,.row 2 true (.int .i64) r8),(9,.row 2 true (.int .i64) r9)],nx:=10 }
theorem ZL.f_eq (l0_0:List (List Int)) (a1_0:Int) (l1_1:List Int) (l2:List Int) (l3_0:List (List Int)) (a4_0:Int) (l4_1:List Int):ZL.f l0_0 a1_0 l1_1 l2 l3_0 a4_0 l4_1=ZL.l0 l2 0 l0_0 a1_0 l1_1 l3_0 a4_0 l4_1 0 0 a1_0 a4_0 ([]:List Int) ([]:List Int):=by kernel_rfl
theorem ZL.l0_eq (x2:List Int) (x14:Int) (b0_0:List (List Int)) (b1_0:Int) (b1_1:List Int) (b2_0:List (List Int)) (b3_0:Int) (b3_1:List Int) (b4_0:Int) (b5_0:Int) (b6_0:Int) (b7_0:Int) (r8:List Int) (r9:List Int):ZL.l0 x2 x14 b0_0 b1_0 b1_1 b2_0 b3_0 b3_1 b4_0 b5_0 b6_0 b7_0 r8 r9=(Zp.f b0_0).bind fun t28=>if x14 < t28 then(if 0≤x14 then(if x14 < (x2.length:Int)then(if 0≤rd x2 x14 then(if rd x2 x14 < (b1_1.length:Int)then(if r8.length+([rd b1_1 (rd x2 x14)]:List Int).length≤17592186044416 then(ZL.l0 x2 (wrapI (x14+1)) b0_0 b1_0 b1_1 b2_0 b3_0 b3_1 b4_0 b5_0 b6_0 b7_0 (r8++([rd b1_1 (rd x2 x14)]:List Int)) r9)else none)else none)else none)else none)else none)else(ZL.l1 x2 0 b0_0 b2_0 b3_0 b3_1 b4_0 b5_0 b6_0 b7_0 r8 r9):=(Zy _ _ _ _).trans (by kernel_rfl)
theorem ZL.l1_eq (x2:List Int) (x15:Int) (b0_0:List (List Int)) (b1_0:List (List Int)) (b2_0:Int) (b2_1:List Int) (b3_0:Int) (b4_0:Int) (b5_0:Int) (b6_0:Int) (r7:List Int) (r8:List Int):ZL.l1 x2 x15 b0_0 b1_0 b2_0 b2_1 b3_0 b4_0 b5_0 b6_0 r7 r8=(ZN.f b0_0 b2_0).bind fun t49=>if x15 < t49 then((Zai.f b0_0 b2_0 x15).bind fun t57=>ZL.l2 x2 x15 0 b0_0 b1_0 b2_0 b2_1 b3_0 b4_0 b5_0 b6_0 t57 r7 r8)else(some (b5_0,r7,b6_0,r8)):=(Zy _ _ _ _).trans (by kernel_rfl)
theorem ZL.l2_eq (x2:List Int) (x15:Int) (x17:Int) (b0_0:List (List Int)) (b1_0:List (List Int)) (b2_0:Int) (b2_1:List Int) (b3_0:Int) (b4_0:Int) (b5_0:Int) (b6_0:Int) (r7:List Int) (r8:List Int) (r9:List Int):ZL.l2 x2 x15 x17 b0_0 b1_0 b2_0 b2_1 b3_0 b4_0 b5_0 b6_0 r7 r8 r9=if x17 < (r7.length:Int)then(if 0≤x17 then(if x17 < (r7.length:Int)then(if 0≤x17 then(if x17 < (r7.length:Int)then(if 0≤rd r7 x17 then(if rd r7 x17 < (x2.length:Int)then(if 0≤x17 then(if x17 < (r7.length:Int)then(if 0≤x17 then(if x17 < (r7.length:Int)then(ZL.l2 x2 x15 (wrapI (x17+1)) b0_0 b1_0 b2_0 b2_1 b3_0 b4_0 b5_0 b6_0 (r7.set (x17:Int).toNat (rd x2 (rd r7 x17))) r8 r9)else none)else none)else none)else none)else none)else none)else none)else none)else none)else none)else((Zat.f b1_0 b2_0 b2_1 r7).bind fun t79=>if r9.length+([t79]:List Int).length≤17592186044416 then(ZL.l1 x2 (wrapI (x15+1)) b0_0 b1_0 b2_0 b2_1 b3_0 b4_0 b5_0 b6_0 r8 (r9++([t79]:List Int)))else none):=(Zy _ _ _ _).trans (by kernel_rfl)
noncomputable def ZL.con:Con:=⟨ZL.fn.ins,ZL.fn.outs,Int×(List Int)×Int×(List Int),fun x=>ZL.f x.1 x.2.1 x.2.2.1 x.2.2.2.1 x.2.2.2.2.1 x.2.2.2.2.2.1 x.2.2.2.2.2.2.1,fun r=>((r.1,r.2.1,r.2.2.1,r.2.2.2,()),(()))⟩
theorem ZL.valid:Valid Tryz.prog 58 ZL.con:=fnV ZL.fn ZL.E ZL.enc ⟨ttOk,(Zf Zp.valid (Zf ZN.valid (Zf Zai.valid (Zf Zat.valid Zaq))))⟩ Tryz.func58
end Go.Proofs.YtoljodiflhbohaaGreatDoor.P
namespace Go.Proofs.YtoljodiflhbohaaGreatDoor.P
open Go Go.RowKit Go.Proofs.YtoljodiflhbohaaGreatDoor.D
noncomputable def Z8.E:Env:={ tt:=TT,con:=[(42,ZJ.con),(55,Zs.con),(56,ZQ.con),(57,Zk.con),(58,ZL.con)],frz:=[],rows:=[19],live:=[(4,[3,5,6,7,9,10,11,13])],n:=64,pin:=0,nils:=[] }
noncomputable def Z8.fn:D.Fn:={ body:=Tryz.f13.body.getD .skip,res:=Tryz.f13.results.toList,ins:=[.agg [.v (.sl 27 (.sl 2 (.int .i64)))],.agg [.v (.sl 27 (.sl 2 (.int .i64)))],.agg [.v (.int .i64),.v (.sl 2 (.int .i64))],.one (.v (.sl 2 (.int .i64))),.agg [.v (.int .i64),.v (.sl 2 (.int .i64))]],outs:=[.agg [.v (.int .i64),.own 2 true (.int .i64)],.agg [.v (.int .i64),.own 2 true (.int .i64)],.one (.v (.int .i64))] }
def Z8.enc (y:lsd (flats Z8.fn.outs)×lsd (ios Z8.fn.ins)):Int×(List Int)×Int×(List Int)×Int:=(y.1.1,y.1.2.1,y.1.2.2.1,y.1.2.2.2.1,y.1.2.2.2.2.1)
noncomputable def Z8.f (l0_0:List (List Int)) (l1_0:List (List Int)) (a2_0:Int) (l2_1:List Int) (l3:List Int) (a4_0:Int) (l4_1:List Int):Option (Int×(List Int)×Int×(List Int)×Int):=denF Z8.E Z8.fn Z8.enc (l0_0,l1_0,a2_0,l2_1,l3,a4_0,l4_1,())
noncomputable def Z8.j0 (x3:List Int) (x13:Int) (b0_0:List (List Int)) (b1_0:List (List Int)) (b2_0:Int) (b2_1:List Int) (b3_0:Int) (b3_1:List Int) (b4_0:Int) (b5_0:Int):Option (Int×(List Int)×Int×(List Int)×Int):=denAt Z8.E Z8.fn Z8.enc [1,1,1] { fr:=[(3,.lf (.sl (.int .i64) x3)),(5,.lf (.box 0 0)),(6,.lf (.box 1 0)),(7,.lf (.box 2 0)),(9,.lf (.box 3 0)),(10,.lf (.box 4 0)),(11,.lf (.box 5 0)),(13,.lf (.int .i64 x13))],ob:=[(0,.box 26 false [.sl (.sl 2 (.int .i64)) b0_0]),(1,.box 26 false [.sl (.sl 2 (.int .i64)) b1_0]),(2,.box 29 false [.int .i64 b2_0,.sl (.int .i64) b2_1]),(3,.box 31 false [.int .i64 b3_0,.sl (.int .i64) b3_1]),(4,.box 29 false [.int .i64 b4_0,.nil]),(5,.box 31 false [.int .i64 b5_0,.nil])],nx:=6 }
theorem Z8.f_eq (l0_0:List (List Int)) (l1_0:List (List Int)) (a2_0:Int) (l2_1:List Int) (l3:List Int) (a4_0:Int) (l4_1:List Int):Z8.f l0_0 l1_0 a2_0 l2_1 l3 a4_0 l4_1=(ZJ.f l1_0 a2_0 l2_1 ([(a4_0,l4_1)]:List (Int×(List Int)))).bind fun t20=>(Zs.f l0_0).bind fun t22=>if t22=true then(Z8.j0 l3 t20 l0_0 l1_0 a2_0 l2_1 a4_0 l4_1 0 0)else(Z8.j0 l3 1 l0_0 l1_0 a2_0 l2_1 a4_0 l4_1 0 0):=by kernel_rfl
theorem Z8.j0_eq (x3:List Int) (x13:Int) (b0_0:List (List Int)) (b1_0:List (List Int)) (b2_0:Int) (b2_1:List Int) (b3_0:Int) (b3_1:List Int) (b4_0:Int) (b5_0:Int):Z8.j0 x3 x13 b0_0 b1_0 b2_0 b2_1 b3_0 b3_1 b4_0 b5_0=if x13=0 then(if(x3.length:Int)=(b0_0.length:Int)then((ZQ.f b1_0 x3).bind fun t40=>if t40=0 then((Zk.f b0_0 b1_0 x3).bind fun t49=>if t49=true then((ZL.f b0_0 b2_0 b2_1 x3 b1_0 b3_0 b3_1).bind fun t59=>some (t59.1,t59.2.1,t59.2.2.1,t59.2.2.2,0))else(some (0,([]:List Int),0,([]:List Int),5)))else(some (0,([]:List Int),0,([]:List Int),2)))else(some (0,([]:List Int),0,([]:List Int),2)))else(some (0,([]:List Int),0,([]:List Int),x13)):=by kernel_rfl
noncomputable def Z8.con:Con:=⟨Z8.fn.ins,Z8.fn.outs,Int×(List Int)×Int×(List Int)×Int,fun x=>Z8.f x.1 x.2.1 x.2.2.1 x.2.2.2.1 x.2.2.2.2.1 x.2.2.2.2.2.1 x.2.2.2.2.2.2.1,fun r=>((r.1,r.2.1,r.2.2.1,r.2.2.2.1,r.2.2.2.2,()),(()))⟩
theorem Z8.valid:Valid Tryz.prog 13 Z8.con:=fnV Z8.fn Z8.E Z8.enc ⟨ttOk,(Zf ZJ.valid (Zf Zs.valid (Zf ZQ.valid (Zf Zk.valid (Zf ZL.valid Zaq)))))⟩ Tryz.func13
end Go.Proofs.YtoljodiflhbohaaGreatDoor.P
namespace Go.Proofs.YtoljodiflhbohaaGreatDoor.P
open Go Go.RowKit Go.Proofs.YtoljodiflhbohaaGreatDoor.D
noncomputable def Zbe.E:Env:={ tt:=TT,con:=[(44,Zap.con)],frz:=[],rows:=[],live:=[],n:=17,pin:=0,nils:=[] }
noncomputable def Zbe.fn:D.Fn:={ body:=Tryz.f14.body.getD .skip,res:=Tryz.f14.results.toList,ins:=[.agg [.v (.int .i64),.v (.sl 2 (.int .i64))],.agg [.v (.int .i64),.v (.sl 2 (.int .i64))]],outs:=[.one (.v .bool)] }
def Zbe.enc (y:lsd (flats Zbe.fn.outs)×lsd (ios Zbe.fn.ins)):Bool:=y.1.1
noncomputable def Zbe.f (a0_0:Int) (l0_1:List Int) (a1_0:Int) (l1_1:List Int):Option Bool:=denF Zbe.E Zbe.fn Zbe.enc (a0_0,l0_1,a1_0,l1_1,())
theorem Zbe.f_eq (a0_0:Int) (l0_1:List Int) (a1_0:Int) (l1_1:List Int):Zbe.f a0_0 l0_1 a1_0 l1_1=if a0_0=a1_0 then((Zap.f l0_1 l1_1).bind fun t15=>some (decide (t15=true)))else(some false):=by kernel_rfl
noncomputable def Zbe.con:Con:=⟨Zbe.fn.ins,Zbe.fn.outs,Bool,fun x=>Zbe.f x.1 x.2.1 x.2.2.1 x.2.2.2.1,fun r=>((r,()),(()))⟩
theorem Zbe.valid:Valid Tryz.prog 14 Zbe.con:=fnV Zbe.fn Zbe.E Zbe.enc ⟨ttOk,(Zf Zap.valid Zaq)⟩ Tryz.func14
end Go.Proofs.YtoljodiflhbohaaGreatDoor.P
namespace Go.Proofs.YtoljodiflhbohaaGreatDoor.P
open Go Go.RowKit Go.Proofs.YtoljodiflhbohaaGreatDoor.D
noncomputable def Zbc.E:Env:={ tt:=TT,con:=[(28,Zr.con),(33,ZF.con)],frz:=[11],rows:=[],live:=[],n:=17,pin:=1,nils:=[] }
noncomputable def Zbc.fn:D.Fn:={ body:=Tryz.f59.body.getD .skip,res:=Tryz.f59.results.toList,ins:=[.ptr false 102 [.v (.sl 5 (.int .u8)),.v (.int .i64),.v (.int .u64)],.one (.v (.int .i64))],outs:=[.one (.v (.int .i64))] }
def Zbc.enc (y:lsd (flats Zbc.fn.outs)×lsd (ios Zbc.fn.ins)):Int×(List Int)×Int×Int:=(y.1.1,y.2.1,y.2.2.1,y.2.2.2.1)
noncomputable def Zbc.f (l0_0:List Int) (a0_1:Int) (a0_2:Int) (a1:Int):Option (Int×(List Int)×Int×Int):=denF Zbc.E Zbc.fn Zbc.enc (l0_0,a0_1,a0_2,a1,())
theorem Zbc.f_eq (l0_0:List Int) (a0_1:Int) (a0_2:Int) (a1:Int):Zbc.f l0_0 a0_1 a0_2 a1=(Zr.f l0_0 a0_1 a0_2 14).bind fun t6=>if t6.1=0 then((ZF.f t6.2.1 t6.2.2.1 t6.2.2.2 ([-1,wrapI (a1+1),1099511627776,-4611686018427387904]:List Int)).bind fun t12=>some (t12.1,t12.2.1,t12.2.2.1,t12.2.2.2))else((Zr.f t6.2.1 t6.2.2.1 t6.2.2.2 (wrapI (a1+1))).bind fun t16=>some (t16.1,t16.2.1,t16.2.2.1,t16.2.2.2)):=by kernel_rfl
noncomputable def Zbc.con:Con:=⟨Zbc.fn.ins,Zbc.fn.outs,Int×(List Int)×Int×Int,fun x=>Zbc.f x.1 x.2.1 x.2.2.1 x.2.2.2.1,fun r=>((r.1,()),(r.2.1,r.2.2.1,r.2.2.2,()))⟩
theorem Zbc.valid:Valid Tryz.prog 59 Zbc.con:=fnV Zbc.fn Zbc.E Zbc.enc ⟨ttOk,(Zf Zr.valid (Zf ZF.valid Zaq))⟩ Tryz.func59
end Go.Proofs.YtoljodiflhbohaaGreatDoor.P
namespace Go.Proofs.YtoljodiflhbohaaGreatDoor.P
open Go Go.RowKit Go.Proofs.YtoljodiflhbohaaGreatDoor.D
noncomputable def Z7.E:Env:={ tt:=TT,con:=[(26,Zaa.con),(27,Zao.con),(31,Zp.con),(59,Zbc.con),(34,ZV.con),(35,ZM.con)],frz:=[30],rows:=[],live:=[],n:=33,pin:=0,nils:=[] }
noncomputable def Z7.fn:D.Fn:={ body:=Tryz.f15.body.getD .skip,res:=Tryz.f15.results.toList,ins:=[.one (.v (.sl 5 (.int .u8)))],outs:=[.agg [.v (.sl 27 (.sl 2 (.int .i64)))],.agg [.v (.int .i64),.v (.sl 2 (.int .i64))],.agg [.v (.int .i64),.own 2 true (.int .i64)],.one (.v (.int .i64))] }
def Z7.enc (y:lsd (flats Z7.fn.outs)×lsd (ios Z7.fn.ins)):(List (List Int))×Int×(List Int)×Int×(List Int)×Int:=(y.1.1,y.1.2.1,y.1.2.2.1,y.1.2.2.2.1,y.1.2.2.2.2.1,y.1.2.2.2.2.2.1)
noncomputable def Z7.f (l0:List Int):Option ((List (List Int))×Int×(List Int)×Int×(List Int)×Int):=denF Z7.E Z7.fn Z7.enc (l0,())
theorem Z7.f_eq (l0:List Int):Z7.f l0=(Zaa.f l0).bind fun t12=>(Zao.f t12.1 t12.2.1 t12.2.2).bind fun t15=>(Zp.f t15.1).bind fun t21=>(Zbc.f t15.2.2.2.2.2.1 t15.2.2.2.2.2.2.1 t15.2.2.2.2.2.2.2 (wrapI (t21 - 1))).bind fun t23=>(ZV.f t23.2.1 t23.2.2.1 t23.2.2.2 t15.1).bind fun t26=>(ZM.f t26.2.1 t26.2.2.1 t26.2.2.2 t15.2.1 t15.2.2.1 t15.2.2.2.1 t15.2.2.2.2.1).bind fun t31=>some (t26.1,t15.2.1,t15.2.2.1,t31.1,t31.2.1,t23.1):=by kernel_rfl
noncomputable def Z7.con:Con:=⟨Z7.fn.ins,Z7.fn.outs,(List (List Int))×Int×(List Int)×Int×(List Int)×Int,fun x=>Z7.f x.1,fun r=>((r.1,r.2.1,r.2.2.1,r.2.2.2.1,r.2.2.2.2.1,r.2.2.2.2.2,()),(()))⟩
theorem Z7.valid:Valid Tryz.prog 15 Z7.con:=fnV Z7.fn Z7.E Z7.enc ⟨ttOk,(Zf Zaa.valid (Zf Zao.valid (Zf Zp.valid (Zf Zbc.valid (Zf ZV.valid (Zf ZM.valid Zaq))))))⟩ Tryz.func15
end Go.Proofs.YtoljodiflhbohaaGreatDoor.P
namespace Go.Proofs.YtoljodiflhbohaaGreatDoor.P
open Go Go.RowKit Go.Proofs.YtoljodiflhbohaaGreatDoor.D
noncomputable def ZS.E:Env:={ tt:=TT,con:=[(103,Zv.con)],frz:=[],rows:=[],live:=[],n:=11,pin:=0,nils:=[] }
noncomputable def ZS.fn:D.Fn:={ body:=Tryz.f62.body.getD .skip,res:=Tryz.f62.results.toList,ins:=[.agg [.v (.sl 27 (.sl 2 (.int .i64)))],.one (.v (.int .i64))],outs:=[.one (.v (.int .i64))] }
def ZS.enc (y:lsd (flats ZS.fn.outs)×lsd (ios ZS.fn.ins)):Int:=y.1.1
noncomputable def ZS.f (l0_0:List (List Int)) (a1:Int):Option Int:=denF ZS.E ZS.fn ZS.enc (l0_0,a1,())
theorem ZS.f_eq (l0_0:List (List Int)) (a1:Int):ZS.f l0_0 a1=if 0≤a1 then(if a1 < (l0_0.length:Int)then((Zv.f (row l0_0 a1) 0).bind fun t10=>some t10)else none)else none:=by kernel_rfl
noncomputable def ZS.con:Con:=⟨ZS.fn.ins,ZS.fn.outs,Int,fun x=>ZS.f x.1 x.2.1,fun r=>((r,()),(()))⟩
theorem ZS.valid:Valid Tryz.prog 62 ZS.con:=fnV ZS.fn ZS.E ZS.enc ⟨ttOk,(Zf Zv.valid Zaq)⟩ Tryz.func62
end Go.Proofs.YtoljodiflhbohaaGreatDoor.P
namespace Go.Proofs.YtoljodiflhbohaaGreatDoor.P
open Go Go.RowKit Go.Proofs.YtoljodiflhbohaaGreatDoor.D
noncomputable def ZT.E:Env:={ tt:=TT,con:=[(62,ZS.con),(41,Zl.con)],frz:=[],rows:=[],live:=[],n:=15,pin:=0,nils:=[] }
noncomputable def ZT.fn:D.Fn:={ body:=Tryz.f66.body.getD .skip,res:=Tryz.f66.results.toList,ins:=[.agg [.v (.sl 27 (.sl 2 (.int .i64)))],.one (.v (.int .i64)),.one (.v (.int .i64))],outs:=[.one (.v (.int .i64))] }
def ZT.enc (y:lsd (flats ZT.fn.outs)×lsd (ios ZT.fn.ins)):Int:=y.1.1
noncomputable def ZT.f (l0_0:List (List Int)) (a1:Int) (a2:Int):Option Int:=denF ZT.E ZT.fn ZT.enc (l0_0,a1,a2,())
theorem ZT.f_eq (l0_0:List (List Int)) (a1:Int) (a2:Int):ZT.f l0_0 a1 a2=(ZS.f l0_0 a1).bind fun t12=>(Zl.f l0_0 ([a1,a2,t12]:List Int)).bind fun t14=>some t14:=by kernel_rfl
noncomputable def ZT.con:Con:=⟨ZT.fn.ins,ZT.fn.outs,Int,fun x=>ZT.f x.1 x.2.1 x.2.2.1,fun r=>((r,()),(()))⟩
theorem ZT.valid:Valid Tryz.prog 66 ZT.con:=fnV ZT.fn ZT.E ZT.enc ⟨ttOk,(Zf ZS.valid (Zf Zl.valid Zaq))⟩ Tryz.func66
end Go.Proofs.YtoljodiflhbohaaGreatDoor.P
namespace Go.Proofs.YtoljodiflhbohaaGreatDoor.P
open Go Go.RowKit Go.Proofs.YtoljodiflhbohaaGreatDoor.D
noncomputable def Z6.E:Env:={ tt:=TT,con:=[(66,ZT.con)],frz:=[],rows:=[],live:=[],n:=9,pin:=0,nils:=[] }
noncomputable def Z6.fn:D.Fn:={ body:=Tryz.f65.body.getD .skip,res:=Tryz.f65.results.toList,ins:=[.one (.v (.int .i64)),.ptr true 26 [.v (.sl 27 (.sl 2 (.int .i64)))],.ptr true 2 [.v (.int .i64)]],outs:=[.one (.v (.int .i64))] }
def Z6.enc (y:lsd (flats Z6.fn.outs)×lsd (ios Z6.fn.ins)):Int:=y.1.1
noncomputable def Z6.f (a0:Int) (l1:List (List Int)) (a2:Int):Option Int:=denF Z6.E Z6.fn Z6.enc (a0,l1,a2,())
theorem Z6.f_eq (a0:Int) (l1:List (List Int)) (a2:Int):Z6.f a0 l1 a2=(ZT.f l1 a2 a0).bind fun t8=>some t8:=by kernel_rfl
noncomputable def Z6.con:Con:=⟨Z6.fn.ins,Z6.fn.outs,Int,fun x=>Z6.f x.1 x.2.1 x.2.2.1,fun r=>((r,()),(()))⟩
theorem Z6.valid:Valid Tryz.prog 65 Z6.con:=fnV Z6.fn Z6.E Z6.enc ⟨ttOk,(Zf ZT.valid Zaq)⟩ Tryz.func65
end Go.Proofs.YtoljodiflhbohaaGreatDoor.P
namespace Go.Proofs.YtoljodiflhbohaaGreatDoor.P
open Go Go.RowKit Go.Proofs.YtoljodiflhbohaaGreatDoor.D
noncomputable def Zam.E:Env:={ tt:=TT,con:=[(64,ZaP.con),(65,Z6.con),(40,ZY.con)],frz:=[],rows:=[],live:=[],n:=20,pin:=0,nils:=[] }
noncomputable def Zam.fn:D.Fn:={ body:=Tryz.f63.body.getD .skip,res:=Tryz.f63.results.toList,ins:=[.one (.v (.sl 2 (.int .i64))),.ptr true 29 [.v (.int .i64),.v (.sl 2 (.int .i64))],.ptr true 2 [.v (.int .i64)],.ptr true 31 [.v (.int .i64),.v (.sl 2 (.int .i64))],.ptr true 26 [.v (.sl 27 (.sl 2 (.int .i64)))],.ptr true 2 [.v (.int .i64)]],outs:=[.one (.v (.int .i64))] }
def Zam.enc (y:lsd (flats Zam.fn.outs)×lsd (ios Zam.fn.ins)):Int:=y.1.1
noncomputable def Zam.f (l0:List Int) (a1_0:Int) (l1_1:List Int) (a2:Int) (a3_0:Int) (l3_1:List Int) (l4:List (List Int)) (a5:Int):Option Int:=denF Zam.E Zam.fn Zam.enc (l0,a1_0,l1_1,a2,a3_0,l3_1,l4,a5,())
theorem Zam.f_eq (l0:List Int) (a1_0:Int) (l1_1:List Int) (a2:Int) (a3_0:Int) (l3_1:List Int) (l4:List (List Int)) (a5:Int):Zam.f l0 a1_0 l1_1 a2 a3_0 l3_1 l4 a5=if 0≤a2 then(if a2 < (l1_1.length:Int)then((ZaP.f l0 (fun z0=>(Z6.f z0 l4 a5).map fun z=>z)).bind fun t17=>(ZY.f a3_0 l3_1 l4 t17).bind fun t18=>some (wrapI ((rd l1_1 a2)*t18)))else none)else none:=by kernel_rfl
noncomputable def Zam.con:Con:=⟨Zam.fn.ins,Zam.fn.outs,Int,fun x=>Zam.f x.1 x.2.1 x.2.2.1 x.2.2.2.1 x.2.2.2.2.1 x.2.2.2.2.2.1 x.2.2.2.2.2.2.1 x.2.2.2.2.2.2.2.1,fun r=>((r,()),(()))⟩
theorem Zam.valid:Valid Tryz.prog 63 Zam.con:=fnV Zam.fn Zam.E Zam.enc ⟨ttOk,(Zf ZaP.valid (Zf Z6.valid (Zf ZY.valid Zaq)))⟩ Tryz.func63
end Go.Proofs.YtoljodiflhbohaaGreatDoor.P
