/- What the proof of the law CrossedMaps stands on, part 6: words, each Go function's Lean function, and that the Go code comes to its answers; no condition. (Packed by wip/myprint/pack.py out of what the kit's printer wrote, its words among it, partly by our patches of it, and out of texts of this session.) -/
import Derived.Test.YthmcpmnhdbeahaaGreatKCrossedMaps3
import Derived.Test.YthmcpmnhdbeahaaGreatKCrossedMaps4
import Derived.Test.YthmcpmnhdbeahaaGreatKCrossedMaps5
set_option linter.unusedVariables false
set_option linter.unusedSimpArgs false
set_option maxRecDepth 100000
namespace Go.Proofs.YthmcpmnhdbeahaaGreat.P
open Go Go.RowKit Go.Proofs.YthmcpmnhdbeahaaGreat.D
noncomputable def ZX.E:Env:={ tt:=TT,con:=[(91,Zao.con)],frz:=[],rows:=[],live:=[(3,[2,3,4,5,6,7]),(7,[2,3,4,5,6,7,8,9])],n:=68,pin:=0,nils:=[] }
noncomputable def ZX.fn:D.Fn:={ body:=Tryz.f286.body.getD .skip,res:=Tryz.f286.results.toList,ins:=[.agg [.v (.sl 27 (.sl 2 (.int .i64)))],.agg [.v (.sl 27 (.sl 2 (.int .i64)))]],outs:=[.agg [.own 27 true (.sl 2 (.int .i64))]] }
def ZX.enc (y:lsd (flats ZX.fn.outs)×lsd (ios ZX.fn.ins)):(List (List Int)):=y.1.1
noncomputable def ZX.f (l0_0:List (List Int)) (l1_0:List (List Int)):Option (List (List Int)):=denF ZX.E ZX.fn ZX.enc (l0_0,l1_0,())
noncomputable def ZX.l0 (x5:Int) (x7:Int) (b0_0:List (List Int)) (b1_0:List (List Int)) (r4:List (List Int)):Option (List (List Int)):=denAt ZX.E ZX.fn ZX.enc [1,1,0,1,0] { fr:=[(2,.lf (.box 0 0)),(3,.lf (.box 1 0)),(4,.lf (.box 2 0)),(5,.lf (.int .i64 x5)),(6,.lf (.box 3 0)),(7,.lf (.int .i64 x7))],ob:=[(0,.box 26 false [.sl (.sl 2 (.int .i64)) b0_0]),(1,.box 26 false [.sl (.sl 2 (.int .i64)) b1_0]),(2,.box 26 false [.nil]),(3,.box 26 false [.own 4]),(4,.row 27 true (.sl 2 (.int .i64)) r4)],nx:=5 }
noncomputable def ZX.l1 (x5:Int) (x7:Int) (x9:Int) (b0_0:List (List Int)) (b1_0:List (List Int)) (r4:List Int) (r5:List (List Int)):Option (List (List Int)):=denAt ZX.E ZX.fn ZX.enc [1,1,0,1,0,0,1,0,0,1,0,1,0] { fr:=[(2,.lf (.box 0 0)),(3,.lf (.box 1 0)),(4,.lf (.box 2 0)),(5,.lf (.int .i64 x5)),(6,.lf (.box 3 0)),(7,.lf (.int .i64 x7)),(8,.lf (.own 4)),(9,.lf (.int .i64 x9))],ob:=[(0,.box 26 false [.sl (.sl 2 (.int .i64)) b0_0]),(1,.box 26 false [.sl (.sl 2 (.int .i64)) b1_0]),(2,.box 26 false [.nil]),(3,.box 26 false [.own 5]),(4,.row 2 true (.int .i64) r4),(5,.row 27 true (.sl 2 (.int .i64)) r5)],nx:=6 }
theorem ZX.f_eq (l0_0:List (List Int)) (l1_0:List (List Int)):ZX.f l0_0 l1_0=(Zao.f l1_0).bind fun t11=>ZX.l0 t11 0 l0_0 l1_0 ([]:List (List Int)):=by kernel_rfl
theorem ZX.l0_eq (x5:Int) (x7:Int) (b0_0:List (List Int)) (b1_0:List (List Int)) (r4:List (List Int)):ZX.l0 x5 x7 b0_0 b1_0 r4=(Zao.f b0_0).bind fun t16=>if x7 < (wrapI (t16*x5))then(ZX.l1 x5 x7 0 b0_0 b1_0 ([]:List Int) r4)else(some r4):=(Zv _ _ _ _).trans (by kernel_rfl)
theorem ZX.l1_eq (x5:Int) (x7:Int) (x9:Int) (b0_0:List (List Int)) (b1_0:List (List Int)) (r4:List Int) (r5:List (List Int)):ZX.l1 x5 x7 x9 b0_0 b1_0 r4 r5=(Zao.f b0_0).bind fun t25=>if x9 < (wrapI (t25*x5))then(if x5=0 then none else(if 0≤wrapI ((x7:Int).tdiv x5)then(if wrapI ((x7:Int).tdiv x5) < (b0_0.length:Int)then(if x5=0 then none else(if 0≤wrapI ((x9:Int).tdiv x5)then(if wrapI ((x9:Int).tdiv x5) < ((row b0_0 (wrapI ((x7:Int).tdiv x5))).length:Int)then(if x5=0 then none else(if 0≤(x7:Int).tmod x5 then(if(x7:Int).tmod x5 < (b1_0.length:Int)then(if x5=0 then none else(if 0≤(x9:Int).tmod x5 then(if(x9:Int).tmod x5 < ((row b1_0 ((x7:Int).tmod x5)).length:Int)then(if r4.length+([wrapI ((wrapI (x5*(T b0_0 (wrapI ((x7:Int).tdiv x5)) (wrapI ((x9:Int).tdiv x5)))))+(T b1_0 ((x7:Int).tmod x5) ((x9:Int).tmod x5)))]:List Int).length≤17592186044416 then(ZX.l1 x5 x7 (wrapI (x9+1)) b0_0 b1_0 (r4++([wrapI ((wrapI (x5*(T b0_0 (wrapI ((x7:Int).tdiv x5)) (wrapI ((x9:Int).tdiv x5)))))+(T b1_0 ((x7:Int).tmod x5) ((x9:Int).tmod x5)))]:List Int)) r5)else none)else none)else none))else none)else none))else none)else none))else none)else none))else(if r5.length+([r4]:List (List Int)).length≤5864062014805 then(ZX.l0 x5 (wrapI (x7+1)) b0_0 b1_0 (r5++([r4]:List (List Int))))else none):=(Zv _ _ _ _).trans (by kernel_rfl)
noncomputable def ZX.con:Con:=⟨ZX.fn.ins,ZX.fn.outs,(List (List Int)),fun x=>ZX.f x.1 x.2.1,fun r=>((r,()),(()))⟩
theorem ZX.valid:Valid Tryz.prog 286 ZX.con:=fnV ZX.fn ZX.E ZX.enc ⟨ttOk,(Zs Zao.valid Zaq)⟩ Tryz.func286
end Go.Proofs.YthmcpmnhdbeahaaGreat.P
namespace Go.Proofs.YthmcpmnhdbeahaaGreat.P
open Go Go.RowKit Go.Proofs.YthmcpmnhdbeahaaGreat.D
noncomputable def ZL.E:Env:={ tt:=TT,con:=[(104,Za6.con)],frz:=[],rows:=[],live:=[(3,[0,1,4,5,6]),(7,[0,1,4,5,6,7,8])],n:=75,pin:=0,nils:=[] }
noncomputable def ZL.fn:D.Fn:={ body:=Tryz.f287.body.getD .skip,res:=Tryz.f287.results.toList,ins:=[.one (.v (.int .i64)),.one (.v (.int .i64))],outs:=[.agg [.own 27 true (.sl 2 (.int .i64))]] }
def ZL.enc (y:lsd (flats ZL.fn.outs)×lsd (ios ZL.fn.ins)):(List (List Int)):=y.1.1
noncomputable def ZL.f (a0:Int) (a1:Int):Option (List (List Int)):=denF ZL.E ZL.fn ZL.enc (a0,a1,())
noncomputable def ZL.l0 (x0:Int) (x1:Int) (x6:Int) (r2:List (List Int)):Option (List (List Int)):=denAt ZL.E ZL.fn ZL.enc [1,1,0,1,0] { fr:=[(0,.lf (.int .i64 x0)),(1,.lf (.int .i64 x1)),(4,.lf (.box 0 0)),(5,.lf (.box 1 0)),(6,.lf (.int .i64 x6))],ob:=[(0,.box 26 false [.nil]),(1,.box 26 false [.own 2]),(2,.row 27 true (.sl 2 (.int .i64)) r2)],nx:=3 }
noncomputable def ZL.l1 (x0:Int) (x1:Int) (x6:Int) (x8:Int) (r2:List Int) (r3:List (List Int)):Option (List (List Int)):=denAt ZL.E ZL.fn ZL.enc [1,1,0,1,0,0,1,0,0,1,0,1,0] { fr:=[(0,.lf (.int .i64 x0)),(1,.lf (.int .i64 x1)),(4,.lf (.box 0 0)),(5,.lf (.box 1 0)),(6,.lf (.int .i64 x6)),(7,.lf (.own 2)),(8,.lf (.int .i64 x8))],ob:=[(0,.box 26 false [.nil]),(1,.box 26 false [.own 3]),(2,.row 2 true (.int .i64) r2),(3,.row 27 true (.sl 2 (.int .i64)) r3)],nx:=4 }
theorem ZL.f_eq (a0:Int) (a1:Int):ZL.f a0 a1=ZL.l0 a0 a1 0 ([]:List (List Int)):=by kernel_rfl
theorem ZL.l0_eq (x0:Int) (x1:Int) (x6:Int) (r2:List (List Int)):ZL.l0 x0 x1 x6 r2=if x6 < (wrapI (2*x0))then(ZL.l1 x0 x1 x6 0 ([]:List Int) r2)else(some r2):=(Zv _ _ _ _).trans (by kernel_rfl)
theorem ZL.l1_eq (x0:Int) (x1:Int) (x6:Int) (x8:Int) (r2:List Int) (r3:List (List Int)):ZL.l1 x0 x1 x6 x8 r2 r3=if x8 < (wrapI (2*x0))then(if x0=0 then none else(if x0=0 then none else(if x0=0 then none else(if x0=0 then none else(if(wrapI ((x8:Int).tdiv x0))=1 then((Za6.f (wrapI ((wrapI (((x8:Int).tmod x0) - ((x6:Int).tmod x0)))+(wrapI ((wrapI (x1*(wrapI ((x6:Int).tdiv x0))))*(wrapI ((x8:Int).tdiv x0)))))) x0).bind fun t64=>if r2.length+([wrapI ((wrapI (x0*((wrapI ((wrapI ((x6:Int).tdiv x0))+(wrapI ((x8:Int).tdiv x0))):Int).tmod 2)))+t64)]:List Int).length≤17592186044416 then(ZL.l1 x0 x1 x6 (wrapI (x8+1)) (r2++([wrapI ((wrapI (x0*((wrapI ((wrapI ((x6:Int).tdiv x0))+(wrapI ((x8:Int).tdiv x0))):Int).tmod 2)))+t64)]:List Int)) r3)else none)else((Za6.f (wrapI ((wrapI (((x6:Int).tmod x0)+((x8:Int).tmod x0)))+(wrapI ((wrapI (x1*(wrapI ((x6:Int).tdiv x0))))*(wrapI ((x8:Int).tdiv x0)))))) x0).bind fun t64=>if r2.length+([wrapI ((wrapI (x0*((wrapI ((wrapI ((x6:Int).tdiv x0))+(wrapI ((x8:Int).tdiv x0))):Int).tmod 2)))+t64)]:List Int).length≤17592186044416 then(ZL.l1 x0 x1 x6 (wrapI (x8+1)) (r2++([wrapI ((wrapI (x0*((wrapI ((wrapI ((x6:Int).tdiv x0))+(wrapI ((x8:Int).tdiv x0))):Int).tmod 2)))+t64)]:List Int)) r3)else none))))))else(if r3.length+([r2]:List (List Int)).length≤5864062014805 then(ZL.l0 x0 x1 (wrapI (x6+1)) (r3++([r2]:List (List Int))))else none):=(Zv _ _ _ _).trans (by kernel_rfl)
noncomputable def ZL.con:Con:=⟨ZL.fn.ins,ZL.fn.outs,(List (List Int)),fun x=>ZL.f x.1 x.2.1,fun r=>((r,()),(()))⟩
theorem ZL.valid:Valid Tryz.prog 287 ZL.con:=fnV ZL.fn ZL.E ZL.enc ⟨ttOk,(Zs Za6.valid Zaq)⟩ Tryz.func287
end Go.Proofs.YthmcpmnhdbeahaaGreat.P
namespace Go.Proofs.YthmcpmnhdbeahaaGreat.P
open Go Go.RowKit Go.Proofs.YthmcpmnhdbeahaaGreat.D
noncomputable def ZaQ.E:Env:={ tt:=TT,con:=[(285,Z6.con),(286,ZX.con),(287,ZL.con)],frz:=[],rows:=[],live:=[],n:=57,pin:=0,nils:=[] }
noncomputable def ZaQ.fn:D.Fn:={ body:=Tryz.f252.body.getD .skip,res:=Tryz.f252.results.toList,ins:=[.one (.v .str)],outs:=[.agg [.own 27 true (.sl 2 (.int .i64))],.one (.v .bool)] }
def ZaQ.enc (y:lsd (flats ZaQ.fn.outs)×lsd (ios ZaQ.fn.ins)):(List (List Int))×Bool:=(y.1.1,y.1.2.1)
noncomputable def ZaQ.f (a0:ByteArray):Option ((List (List Int))×Bool):=denF ZaQ.E ZaQ.fn ZaQ.enc (a0,())
theorem ZaQ.f_eq (a0:ByteArray):ZaQ.f a0=(Z6.f 2).bind fun t5=>if a0=(⟨#[107,108,101,105,110]⟩:ByteArray)then((ZX.f t5 t5).bind fun t11=>some (t11,true))else(if a0=(⟨#[99,117,98,101]⟩:ByteArray)then((ZX.f t5 t5).bind fun t17=>(ZX.f t5 t17).bind fun t18=>some (t18,true))else(if a0=(⟨#[99,50,99,52]⟩:ByteArray)then((Z6.f 4).bind fun t22=>(ZX.f t5 t22).bind fun t23=>some (t23,true))else(if a0=(⟨#[115,51]⟩:ByteArray)then((ZL.f 3 0).bind fun t26=>some (t26,true))else(if a0=(⟨#[100,105,104,101,100,114,97,108]⟩:ByteArray)then((ZL.f 4 0).bind fun t29=>some (t29,true))else(if a0=(⟨#[113,117,97,116,101,114,110,105,111,110]⟩:ByteArray)then((ZL.f 4 2).bind fun t32=>some (t32,true))else(if(a0.size:Int)=2 then(if 0 < (a0.size:Int)then(if(Zea a0 0)=99 then(if 1 < (a0.size:Int)then(if(Zea a0 1)≥49 then(if 1 < (a0.size:Int)then(if(Zea a0 1)≤56 then(if 1 < (a0.size:Int)then((Z6.f (wrapI (wr .u8 ((Zea a0 1) - 48)))).bind fun t55=>some (t55,true))else none)else(some (([]:List (List Int)),false)))else none)else(some (([]:List (List Int)),false)))else none)else(some (([]:List (List Int)),false)))else none)else(some (([]:List (List Int)),false)))))))):=by kernel_rfl
noncomputable def ZaQ.con:Con:=⟨ZaQ.fn.ins,ZaQ.fn.outs,(List (List Int))×Bool,fun x=>ZaQ.f x.1,fun r=>((r.1,r.2,()),(()))⟩
theorem ZaQ.valid:Valid Tryz.prog 252 ZaQ.con:=fnV ZaQ.fn ZaQ.E ZaQ.enc ⟨ttOk,(Zs Z6.valid (Zs ZX.valid (Zs ZL.valid Zaq)))⟩ Tryz.func252
end Go.Proofs.YthmcpmnhdbeahaaGreat.P
namespace Go.Proofs.YthmcpmnhdbeahaaGreat.P
open Go Go.RowKit Go.Proofs.YthmcpmnhdbeahaaGreat.D
noncomputable def ZaV.E:Env:={ tt:=TT,con:=[(184,ZaJ.con)],frz:=[],rows:=[],live:=[(3,[1,2,3,4])],n:=26,pin:=0,nils:=[] }
noncomputable def ZaV.fn:D.Fn:={ body:=Tryz.f232.body.getD .skip,res:=Tryz.f232.results.toList,ins:=[.agg [.v (.sl 27 (.sl 2 (.int .i64)))]],outs:=[.agg [.own 27 true (.sl 2 (.int .i64))]] }
def ZaV.enc (y:lsd (flats ZaV.fn.outs)×lsd (ios ZaV.fn.ins)):(List (List Int)):=y.1.1
noncomputable def ZaV.f (l0_0:List (List Int)):Option (List (List Int)):=denF ZaV.E ZaV.fn ZaV.enc (l0_0,())
noncomputable def ZaV.l0 (x4:Int) (b0_0:List (List Int)) (r3:List (List Int)):Option (List (List Int)):=denAt ZaV.E ZaV.fn ZaV.enc [1,1,0,1,0] { fr:=[(1,.lf (.box 0 0)),(2,.lf (.box 1 0)),(3,.lf (.box 2 0)),(4,.lf (.int .i64 x4))],ob:=[(0,.box 26 false [.sl (.sl 2 (.int .i64)) b0_0]),(1,.box 26 false [.nil]),(2,.box 26 false [.own 3]),(3,.row 27 true (.sl 2 (.int .i64)) r3)],nx:=4 }
theorem ZaV.f_eq (l0_0:List (List Int)):ZaV.f l0_0=ZaV.l0 0 l0_0 ([]:List (List Int)):=by kernel_rfl
theorem ZaV.l0_eq (x4:Int) (b0_0:List (List Int)) (r3:List (List Int)):ZaV.l0 x4 b0_0 r3=if x4 < (b0_0.length:Int)then(if 0≤x4 then(if x4 < (b0_0.length:Int)then((ZaJ.f (row b0_0 x4)).bind fun t21=>if r3.length+([t21]:List (List Int)).length≤5864062014805 then(ZaV.l0 (wrapI (x4+1)) b0_0 (r3++([t21]:List (List Int))))else none)else none)else none)else(some r3):=(Zv _ _ _ _).trans (by kernel_rfl)
noncomputable def ZaV.con:Con:=⟨ZaV.fn.ins,ZaV.fn.outs,(List (List Int)),fun x=>ZaV.f x.1,fun r=>((r,()),(()))⟩
theorem ZaV.valid:Valid Tryz.prog 232 ZaV.con:=fnV ZaV.fn ZaV.E ZaV.enc ⟨ttOk,(Zs ZaJ.valid Zaq)⟩ Tryz.func232
end Go.Proofs.YthmcpmnhdbeahaaGreat.P
namespace Go.Proofs.YthmcpmnhdbeahaaGreat.P
open Go Go.RowKit Go.Proofs.YthmcpmnhdbeahaaGreat.D
noncomputable def ZE.E:Env:={ tt:=TT,con:=[(232,ZaV.con),(91,Zao.con)],frz:=[],rows:=[],live:=[(3,[1,2,4,5,6]),(7,[1,2,4,5,6,7,8])],n:=49,pin:=0,nils:=[] }
noncomputable def ZE.fn:D.Fn:={ body:=Tryz.f253.body.getD .skip,res:=Tryz.f253.results.toList,ins:=[.agg [.v (.sl 27 (.sl 2 (.int .i64)))],.one (.v (.sl 2 (.int .i64)))],outs:=[.agg [.own 27 true (.sl 2 (.int .i64))]] }
def ZE.enc (y:lsd (flats ZE.fn.outs)×lsd (ios ZE.fn.ins)):(List (List Int)):=y.1.1
noncomputable def ZE.f (l0_0:List (List Int)) (l1:List Int):Option (List (List Int)):=denF ZE.E ZE.fn ZE.enc (l0_0,l1,())
noncomputable def ZE.l0 (x1:List Int) (x6:Int) (b0_0:List (List Int)) (r3:List (List Int)):Option (List (List Int)):=denAt ZE.E ZE.fn ZE.enc [1,1,0,1,0] { fr:=[(1,.lf (.sl (.int .i64) x1)),(2,.lf (.box 0 0)),(4,.lf (.box 1 0)),(5,.lf (.box 2 0)),(6,.lf (.int .i64 x6))],ob:=[(0,.box 26 false [.sl (.sl 2 (.int .i64)) b0_0]),(1,.box 26 false [.nil]),(2,.box 26 false [.own 3]),(3,.row 27 true (.sl 2 (.int .i64)) r3)],nx:=4 }
noncomputable def ZE.l1 (x1:List Int) (x6:Int) (x8:Int) (b0_0:List (List Int)) (r3:List Int) (r4:List (List Int)) (h4:Int):Option (List (List Int)):=denAt ZE.E ZE.fn ZE.enc [1,1,0,1,0,0,1,0,0,1,1,0] { fr:=[(1,.lf (.sl (.int .i64) x1)),(2,.lf (.box 0 0)),(4,.lf (.box 1 0)),(5,.lf (.box 2 0)),(6,.lf (.int .i64 x6)),(7,.lf (.own 3)),(8,.lf (.int .i64 x8))],ob:=[(0,.box 26 false [.sl (.sl 2 (.int .i64)) b0_0]),(1,.box 26 false [.nil]),(2,.box 26 false [.own 4]),(3,.row 2 true (.int .i64) r3),(4,.hole 27 (.sl 2 (.int .i64)) r4 (h4:Int).toNat 3)],nx:=5 }
theorem ZE.f_eq (l0_0:List (List Int)) (l1:List Int):ZE.f l0_0 l1=(ZaV.f l0_0).bind fun t10=>ZE.l0 l1 0 l0_0 t10:=by kernel_rfl
theorem ZE.l0_eq (x1:List Int) (x6:Int) (b0_0:List (List Int)) (r3:List (List Int)):ZE.l0 x1 x6 b0_0 r3=(Zao.f b0_0).bind fun t13=>if x6 < t13 then(if 0≤x6 then(if x6 < (x1.length:Int)then(if 0≤rd x1 x6 then(if rd x1 x6 < (r3.length:Int)then(if 0≤rd x1 x6 then(if rd x1 x6 < (r3.length:Int)then(ZE.l1 x1 x6 0 b0_0 (row r3 (rd x1 x6)) r3 (rd x1 x6))else none)else none)else none)else none)else none)else none)else(some r3):=(Zv _ _ _ _).trans (by kernel_rfl)
theorem ZE.l1_eq (x1:List Int) (x6:Int) (x8:Int) (b0_0:List (List Int)) (r3:List Int) (r4:List (List Int)) (h4:Int):ZE.l1 x1 x6 x8 b0_0 r3 r4 h4=(Zao.f b0_0).bind fun t27=>if x8 < t27 then(if 0≤x8 then(if x8 < (x1.length:Int)then(if 0≤x6 then(if x6 < (b0_0.length:Int)then(if 0≤x8 then(if x8 < ((row b0_0 x6).length:Int)then(if 0≤T b0_0 x6 x8 then(if T b0_0 x6 x8 < (x1.length:Int)then(if 0≤rd x1 x8 then(if rd x1 x8 < (r3.length:Int)then(if 0≤rd x1 x8 then(if rd x1 x8 < (r3.length:Int)then(ZE.l1 x1 x6 (wrapI (x8+1)) b0_0 (r3.set (rd x1 x8:Int).toNat (rd x1 (T b0_0 x6 x8))) r4 h4)else none)else none)else none)else none)else none)else none)else none)else none)else none)else none)else none)else none)else(ZE.l0 x1 (wrapI (x6+1)) b0_0 (r4.set (h4:Int).toNat r3)):=(Zv _ _ _ _).trans (by kernel_rfl)
noncomputable def ZE.con:Con:=⟨ZE.fn.ins,ZE.fn.outs,(List (List Int)),fun x=>ZE.f x.1 x.2.1,fun r=>((r,()),(()))⟩
theorem ZE.valid:Valid Tryz.prog 253 ZE.con:=fnV ZE.fn ZE.E ZE.enc ⟨ttOk,(Zs ZaV.valid (Zs Zao.valid Zaq))⟩ Tryz.func253
end Go.Proofs.YthmcpmnhdbeahaaGreat.P
namespace Go.Proofs.YthmcpmnhdbeahaaGreat.P
open Go Go.RowKit Go.Proofs.YthmcpmnhdbeahaaGreat.D
noncomputable def Zad.E:Env:={ tt:=TT,con:=[(174,Zac.con),(184,ZaJ.con)],frz:=[8,28],rows:=[],live:=[(3,[0,1,5,6])],n:=30,pin:=1,nils:=[] }
noncomputable def Zad.fn:D.Fn:={ body:=Tryz.f288.body.getD .skip,res:=Tryz.f288.results.toList,ins:=[.ptr false 143 [.v (.sl 5 (.int .u8)),.v (.int .i64),.v (.int .u64)],.one (.v (.int .i64))],outs:=[.one (.v (.sl 2 (.int .i64)))] }
def Zad.enc (y:lsd (flats Zad.fn.outs)×lsd (ios Zad.fn.ins)):(List Int)×(List Int)×Int×Int:=(y.1.1,y.2.1,y.2.2.1,y.2.2.2.1)
noncomputable def Zad.f (l0_0:List Int) (a0_1:Int) (a0_2:Int) (a1:Int):Option ((List Int)×(List Int)×Int×Int):=denF Zad.E Zad.fn Zad.enc (l0_0,a0_1,a0_2,a1,())
noncomputable def Zad.l0 (x1:Int) (x5:List Int) (x6:Int) (b0_0:List Int) (b0_1:Int) (b0_2:Int):Option ((List Int)×(List Int)×Int×Int):=denAt Zad.E Zad.fn Zad.enc [1,1,0,1,0] { fr:=[(0,.lf (.box 0 0)),(1,.lf (.int .i64 x1)),(5,.lf (.sl (.int .i64) x5)),(6,.lf (.int .i64 x6))],ob:=[(0,.box 143 false [.sl (.int .u8) b0_0,.int .i64 b0_1,.int .u64 b0_2])],nx:=1 }
theorem Zad.f_eq (l0_0:List Int) (a0_1:Int) (a0_2:Int) (a1:Int):Zad.f l0_0 a0_1 a0_2 a1=Zad.l0 a1 ([]:List Int) 0 l0_0 a0_1 a0_2:=by kernel_rfl
theorem Zad.l0_eq (x1:Int) (x5:List Int) (x6:Int) (b0_0:List Int) (b0_1:Int) (b0_2:Int):Zad.l0 x1 x5 x6 b0_0 b0_1 b0_2=if x6 < x1 then((Zac.f b0_0 b0_1 b0_2 (wrapI (x6+1))).bind fun t17=>if 0≤t17.1 then(if t17.1≤(x5.length:Int)then((ZaJ.f (x5.take (t17.1:Int).toNat)).bind fun t21=>if t21.length+([x6]:List Int).length≤17592186044416 then(if 0≤t17.1 then(if t17.1≤(x5.length:Int)then(if(t21++([x6]:List Int)).length+(x5.drop (t17.1:Int).toNat).length≤17592186044416 then(Zad.l0 x1 ((t21++([x6]:List Int))++(x5.drop (t17.1:Int).toNat)) (wrapI (x6+1)) t17.2.1 t17.2.2.1 t17.2.2.2)else none)else none)else none)else none)else none)else none)else(some (x5,b0_0,b0_1,b0_2)):=(Zv _ _ _ _).trans (by kernel_rfl)
noncomputable def Zad.con:Con:=⟨Zad.fn.ins,Zad.fn.outs,(List Int)×(List Int)×Int×Int,fun x=>Zad.f x.1 x.2.1 x.2.2.1 x.2.2.2.1,fun r=>((r.1,()),(r.2.1,r.2.2.1,r.2.2.2,()))⟩
theorem Zad.valid:Valid Tryz.prog 288 Zad.con:=fnV Zad.fn Zad.E Zad.enc ⟨ttOk,(Zs Zac.valid (Zs ZaJ.valid Zaq))⟩ Tryz.func288
end Go.Proofs.YthmcpmnhdbeahaaGreat.P
namespace Go.Proofs.YthmcpmnhdbeahaaGreat.P
open Go Go.RowKit Go.Proofs.YthmcpmnhdbeahaaGreat.D
noncomputable def ZZ.E:Env:={ tt:=TT,con:=[(288,Zad.con)],frz:=[],rows:=[],live:=[(3,[5,6,7])],n:=28,pin:=1,nils:=[] }
noncomputable def ZZ.fn:D.Fn:={ body:=Tryz.f254.body.getD .skip,res:=Tryz.f254.results.toList,ins:=[.ptr false 143 [.v (.sl 5 (.int .u8)),.v (.int .i64),.v (.int .u64)],.one (.v (.int .i64))],outs:=[.one (.own 2 true (.int .i64))] }
def ZZ.enc (y:lsd (flats ZZ.fn.outs)×lsd (ios ZZ.fn.ins)):(List Int)×(List Int)×Int×Int:=(y.1.1,y.2.1,y.2.2.1,y.2.2.2.1)
noncomputable def ZZ.f (l0_0:List Int) (a0_1:Int) (a0_2:Int) (a1:Int):Option ((List Int)×(List Int)×Int×Int):=denF ZZ.E ZZ.fn ZZ.enc (l0_0,a0_1,a0_2,a1,())
noncomputable def ZZ.l0 (x5:List Int) (x7:Int) (b0_0:List Int) (b0_1:Int) (b0_2:Int) (r1:List Int):Option ((List Int)×(List Int)×Int×Int):=denAt ZZ.E ZZ.fn ZZ.enc [1,1,0,1,0] { fr:=[(5,.lf (.sl (.int .i64) x5)),(6,.lf (.own 1)),(7,.lf (.int .i64 x7))],ob:=[(0,.box 143 false [.sl (.int .u8) b0_0,.int .i64 b0_1,.int .u64 b0_2]),(1,.row 2 true (.int .i64) r1)],nx:=2 }
theorem ZZ.f_eq (l0_0:List Int) (a0_1:Int) (a0_2:Int) (a1:Int):ZZ.f l0_0 a0_1 a0_2 a1=(Zad.f l0_0 a0_1 a0_2 (wrapI (a1 - 1))).bind fun t11=>ZZ.l0 t11.1 0 t11.2.1 t11.2.2.1 t11.2.2.2 ([0]:List Int):=by kernel_rfl
theorem ZZ.l0_eq (x5:List Int) (x7:Int) (b0_0:List Int) (b0_1:Int) (b0_2:Int) (r1:List Int):ZZ.l0 x5 x7 b0_0 b0_1 b0_2 r1=if x7 < (x5.length:Int)then(if 0≤x7 then(if x7 < (x5.length:Int)then(if r1.length+([wrapI ((rd x5 x7)+1)]:List Int).length≤17592186044416 then(ZZ.l0 x5 (wrapI (x7+1)) b0_0 b0_1 b0_2 (r1++([wrapI ((rd x5 x7)+1)]:List Int)))else none)else none)else none)else(some (r1,b0_0,b0_1,b0_2)):=(Zv _ _ _ _).trans (by kernel_rfl)
noncomputable def ZZ.con:Con:=⟨ZZ.fn.ins,ZZ.fn.outs,(List Int)×(List Int)×Int×Int,fun x=>ZZ.f x.1 x.2.1 x.2.2.1 x.2.2.2.1,fun r=>((r.1,()),(r.2.1,r.2.2.1,r.2.2.2,()))⟩
theorem ZZ.valid:Valid Tryz.prog 254 ZZ.con:=fnV ZZ.fn ZZ.E ZZ.enc ⟨ttOk,(Zs Zad.valid Zaq)⟩ Tryz.func254
end Go.Proofs.YthmcpmnhdbeahaaGreat.P
namespace Go.Proofs.YthmcpmnhdbeahaaGreat.P
open Go Go.RowKit Go.Proofs.YthmcpmnhdbeahaaGreat.D
noncomputable def Zbz.E:Env:={ tt:=TT,con:=[],frz:=[],rows:=[],live:=[],n:=2,pin:=0,nils:=[] }
noncomputable def Zbz.fn:D.Fn:={ body:=Tryz.f268.body.getD .skip,res:=Tryz.f268.results.toList,ins:=[],outs:=[.one (.own 9 true .str)] }
def Zbz.enc (y:lsd (flats Zbz.fn.outs)×lsd (ios Zbz.fn.ins)):(List ByteArray):=y.1.1
noncomputable def Zbz.f:Option (List ByteArray):=denF Zbz.E Zbz.fn Zbz.enc (())
theorem Zbz.f_eq:Zbz.f=some ([(⟨#[99,49]⟩:ByteArray),(⟨#[99,50]⟩:ByteArray),(⟨#[99,51]⟩:ByteArray),(⟨#[99,52]⟩:ByteArray),(⟨#[99,53]⟩:ByteArray),(⟨#[99,54]⟩:ByteArray),(⟨#[99,55]⟩:ByteArray),(⟨#[99,56]⟩:ByteArray),(⟨#[107,108,101,105,110]⟩:ByteArray),(⟨#[115,51]⟩:ByteArray),(⟨#[99,50,99,52]⟩:ByteArray),(⟨#[99,117,98,101]⟩:ByteArray),(⟨#[100,105,104,101,100,114,97,108]⟩:ByteArray),(⟨#[113,117,97,116,101,114,110,105,111,110]⟩:ByteArray)]:List ByteArray):=by kernel_rfl
noncomputable def Zbz.con:Con:=⟨Zbz.fn.ins,Zbz.fn.outs,(List ByteArray),fun x=>Zbz.f,fun r=>((r,()),(()))⟩
theorem Zbz.valid:Valid Tryz.prog 268 Zbz.con:=fnV Zbz.fn Zbz.E Zbz.enc ⟨ttOk,Zaq⟩ Tryz.func268
end Go.Proofs.YthmcpmnhdbeahaaGreat.P
namespace Go.Proofs.YthmcpmnhdbeahaaGreat.P
open Go Go.RowKit Go.Proofs.YthmcpmnhdbeahaaGreat.D
noncomputable def ZbC.E:Env:={ tt:=TT,con:=[(268,Zbz.con),(174,Zac.con),(252,ZaQ.con),(91,Zao.con),(254,ZZ.con),(253,ZE.con)],frz:=[],rows:=[],live:=[],n:=28,pin:=1,nils:=[] }
noncomputable def ZbC.fn:D.Fn:={ body:=Tryz.f230.body.getD .skip,res:=Tryz.f230.results.toList,ins:=[.ptr false 143 [.v (.sl 5 (.int .u8)),.v (.int .i64),.v (.int .u64)]],outs:=[.agg [.own 27 true (.sl 2 (.int .i64))]] }
def ZbC.enc (y:lsd (flats ZbC.fn.outs)×lsd (ios ZbC.fn.ins)):(List (List Int))×(List Int)×Int×Int:=(y.1.1,y.2.1,y.2.2.1,y.2.2.2.1)
noncomputable def ZbC.f (l0_0:List Int) (a0_1:Int) (a0_2:Int):Option ((List (List Int))×(List Int)×Int×Int):=denF ZbC.E ZbC.fn ZbC.enc (l0_0,a0_1,a0_2,())
theorem ZbC.f_eq (l0_0:List Int) (a0_1:Int) (a0_2:Int):ZbC.f l0_0 a0_1 a0_2=(Zbz.f).bind fun t6=>(Zac.f l0_0 a0_1 a0_2 (t6.length:Int)).bind fun t12=>if 0≤t12.1 then(if t12.1 < (t6.length:Int)then(if 0≤t12.1 then(if t12.1 < (t6.length:Int)then((ZaQ.f (Ty.rd .str t6 t12.1)).bind fun t15=>(Zac.f t12.2.1 t12.2.2.1 t12.2.2.2 2).bind fun t19=>if t19.1=0 then(some (t15.1,t19.2.1,t19.2.2.1,t19.2.2.2))else((Zao.f t15.1).bind fun t25=>(ZZ.f t19.2.1 t19.2.2.1 t19.2.2.2 t25).bind fun t26=>(ZE.f t15.1 t26.1).bind fun t27=>some (t27,t26.2.1,t26.2.2.1,t26.2.2.2)))else none)else none)else none)else none:=by kernel_rfl
noncomputable def ZbC.con:Con:=⟨ZbC.fn.ins,ZbC.fn.outs,(List (List Int))×(List Int)×Int×Int,fun x=>ZbC.f x.1 x.2.1 x.2.2.1,fun r=>((r.1,()),(r.2.1,r.2.2.1,r.2.2.2,()))⟩
theorem ZbC.valid:Valid Tryz.prog 230 ZbC.con:=fnV ZbC.fn ZbC.E ZbC.enc ⟨ttOk,(Zs Zbz.valid (Zs Zac.valid (Zs ZaQ.valid (Zs Zao.valid (Zs ZZ.valid (Zs ZE.valid Zaq))))))⟩ Tryz.func230
end Go.Proofs.YthmcpmnhdbeahaaGreat.P
namespace Go.Proofs.YthmcpmnhdbeahaaGreat.P
open Go Go.RowKit Go.Proofs.YthmcpmnhdbeahaaGreat.D
noncomputable def Za2.E:Env:={ tt:=TT,con:=[(174,Zac.con)],frz:=[],rows:=[],live:=[],n:=12,pin:=1,nils:=[] }
noncomputable def Za2.fn:D.Fn:={ body:=Tryz.f175.body.getD .skip,res:=Tryz.f175.results.toList,ins:=[.ptr false 143 [.v (.sl 5 (.int .u8)),.v (.int .i64),.v (.int .u64)],.one (.v (.sl 2 (.int .i64)))],outs:=[.one (.v (.int .i64))] }
def Za2.enc (y:lsd (flats Za2.fn.outs)×lsd (ios Za2.fn.ins)):Int×(List Int)×Int×Int:=(y.1.1,y.2.1,y.2.2.1,y.2.2.2.1)
noncomputable def Za2.f (l0_0:List Int) (a0_1:Int) (a0_2:Int) (l1:List Int):Option (Int×(List Int)×Int×Int):=denF Za2.E Za2.fn Za2.enc (l0_0,a0_1,a0_2,l1,())
theorem Za2.f_eq (l0_0:List Int) (a0_1:Int) (a0_2:Int) (l1:List Int):Za2.f l0_0 a0_1 a0_2 l1=(Zac.f l0_0 a0_1 a0_2 (l1.length:Int)).bind fun t9=>if 0≤t9.1 then(if t9.1 < (l1.length:Int)then(some (rd l1 t9.1,t9.2.1,t9.2.2.1,t9.2.2.2))else none)else none:=by kernel_rfl
noncomputable def Za2.con:Con:=⟨Za2.fn.ins,Za2.fn.outs,Int×(List Int)×Int×Int,fun x=>Za2.f x.1 x.2.1 x.2.2.1 x.2.2.2.1,fun r=>((r.1,()),(r.2.1,r.2.2.1,r.2.2.2,()))⟩
theorem Za2.valid:Valid Tryz.prog 175 Za2.con:=fnV Za2.fn Za2.E Za2.enc ⟨ttOk,(Zs Zac.valid Zaq)⟩ Tryz.func175
end Go.Proofs.YthmcpmnhdbeahaaGreat.P
namespace Go.Proofs.YthmcpmnhdbeahaaGreat.P
open Go Go.RowKit Go.Proofs.YthmcpmnhdbeahaaGreat.D
noncomputable def ZbA.E:Env:={ tt:=TT,con:=[(175,Za2.con)],frz:=[4],rows:=[],live:=[],n:=6,pin:=1,nils:=[] }
noncomputable def ZbA.fn:D.Fn:={ body:=Tryz.f231.body.getD .skip,res:=Tryz.f231.results.toList,ins:=[.ptr false 143 [.v (.sl 5 (.int .u8)),.v (.int .i64),.v (.int .u64)]],outs:=[.one (.v (.int .i64))] }
def ZbA.enc (y:lsd (flats ZbA.fn.outs)×lsd (ios ZbA.fn.ins)):Int×(List Int)×Int×Int:=(y.1.1,y.2.1,y.2.2.1,y.2.2.2.1)
noncomputable def ZbA.f (l0_0:List Int) (a0_1:Int) (a0_2:Int):Option (Int×(List Int)×Int×Int):=denF ZbA.E ZbA.fn ZbA.enc (l0_0,a0_1,a0_2,())
theorem ZbA.f_eq (l0_0:List Int) (a0_1:Int) (a0_2:Int):ZbA.f l0_0 a0_1 a0_2=(Za2.f l0_0 a0_1 a0_2 ([2,2,3,3,4,4,5,6,8,8,9,12,7,10,11]:List Int)).bind fun t5=>some (t5.1,t5.2.1,t5.2.2.1,t5.2.2.2):=by kernel_rfl
noncomputable def ZbA.con:Con:=⟨ZbA.fn.ins,ZbA.fn.outs,Int×(List Int)×Int×Int,fun x=>ZbA.f x.1 x.2.1 x.2.2.1,fun r=>((r.1,()),(r.2.1,r.2.2.1,r.2.2.2,()))⟩
theorem ZbA.valid:Valid Tryz.prog 231 ZbA.con:=fnV ZbA.fn ZbA.E ZbA.enc ⟨ttOk,(Zs Za2.valid Zaq)⟩ Tryz.func231
end Go.Proofs.YthmcpmnhdbeahaaGreat.P
namespace Go.Proofs.YthmcpmnhdbeahaaGreat.P
open Go Go.RowKit Go.Proofs.YthmcpmnhdbeahaaGreat.D
noncomputable def ZaF.E:Env:={ tt:=TT,con:=[(230,ZbC.con),(231,ZbA.con),(197,Zbr.con),(111,Zn.con),(174,Zac.con),(184,ZaJ.con),(91,Zao.con)],frz:=[11,19],rows:=[],live:=[(7,[0,2,3,5,6,8,9]),(10,[2,3,5,6,8])],n:=49,pin:=1,nils:=[] }
noncomputable def ZaF.fn:D.Fn:={ body:=Tryz.f169.body.getD .skip,res:=Tryz.f169.results.toList,ins:=[.ptr false 143 [.v (.sl 5 (.int .u8)),.v (.int .i64),.v (.int .u64)]],outs:=[.agg [.v (.sl 27 (.sl 2 (.int .i64)))],.agg [.v (.int .i64),.v (.sl 2 (.int .i64))],.one (.own 2 true (.int .i64))] }
def ZaF.enc (y:lsd (flats ZaF.fn.outs)×lsd (ios ZaF.fn.ins)):(List (List Int))×Int×(List Int)×(List Int)×(List Int)×Int×Int:=(y.1.1,y.1.2.1,y.1.2.2.1,y.1.2.2.2.1,y.2.1,y.2.2.1,y.2.2.2.1)
noncomputable def ZaF.f (l0_0:List Int) (a0_1:Int) (a0_2:Int):Option ((List (List Int))×Int×(List Int)×(List Int)×(List Int)×Int×Int):=denF ZaF.E ZaF.fn ZaF.enc (l0_0,a0_1,a0_2,())
noncomputable def ZaF.j0 (b0_0:List Int) (b0_1:Int) (b0_2:Int) (b2_0:Int) (b3_0:List (List Int)) (b4_0:Int) (b4_1:List Int) (r5:List Int):Option ((List (List Int))×Int×(List Int)×(List Int)×(List Int)×Int×Int):=denAt ZaF.E ZaF.fn ZaF.enc [1,1,1,1,1] { fr:=[(2,.lf (.box 1 0)),(3,.lf (.box 2 0)),(5,.lf (.box 3 0)),(6,.lf (.box 4 0)),(8,.lf (.own 5))],ob:=[(0,.box 143 false [.sl (.int .u8) b0_0,.int .i64 b0_1,.int .u64 b0_2]),(1,.box 26 false [.nil]),(2,.box 29 false [.int .i64 b2_0,.nil]),(3,.box 26 false [.sl (.sl 2 (.int .i64)) b3_0]),(4,.box 29 false [.int .i64 b4_0,.sl (.int .i64) b4_1]),(5,.row 2 true (.int .i64) r5)],nx:=6 }
noncomputable def ZaF.l1 (x9:Int) (b0_0:List Int) (b0_1:Int) (b0_2:Int) (b2_0:Int) (b3_0:List (List Int)) (b4_0:Int) (b4_1:List Int) (r5:List Int):Option ((List (List Int))×Int×(List Int)×(List Int)×(List Int)×Int×Int):=denAt ZaF.E ZaF.fn ZaF.enc [1,1,1,1,0,1,1,1,0] { fr:=[(0,.lf (.box 0 0)),(2,.lf (.box 1 0)),(3,.lf (.box 2 0)),(5,.lf (.box 3 0)),(6,.lf (.box 4 0)),(8,.lf (.own 5)),(9,.lf (.int .i64 x9))],ob:=[(0,.box 143 false [.sl (.int .u8) b0_0,.int .i64 b0_1,.int .u64 b0_2]),(1,.box 26 false [.nil]),(2,.box 29 false [.int .i64 b2_0,.nil]),(3,.box 26 false [.sl (.sl 2 (.int .i64)) b3_0]),(4,.box 29 false [.int .i64 b4_0,.sl (.int .i64) b4_1]),(5,.row 2 true (.int .i64) r5)],nx:=6 }
theorem ZaF.f_eq (l0_0:List Int) (a0_1:Int) (a0_2:Int):ZaF.f l0_0 a0_1 a0_2=(ZbC.f l0_0 a0_1 a0_2).bind fun t11=>(ZbA.f t11.2.1 t11.2.2.1 t11.2.2.2).bind fun t15=>(Zbr.f t15.2.1 t15.2.2.1 t15.2.2.2 t11.1 t15.1).bind fun t16=>(Zn.f fuel t11.1 t16.1 t16.2.1 ([]:List Int)).bind fun t20=>(Zac.f t16.2.2.1 t16.2.2.2.1 t16.2.2.2.2 5).bind fun t23=>if t23.1 > 0 then((Zac.f t23.2.1 t23.2.2.1 t23.2.2.2 (t20.length:Int)).bind fun t29=>if 0≤t29.1 then(if t29.1 < (t20.length:Int)then(if 0≤t29.1 then(if t29.1 < (t20.length:Int)then((ZaJ.f (row t20 t29.1)).bind fun t32=>ZaF.j0 t29.2.1 t29.2.2.1 t29.2.2.2 0 t11.1 t16.1 t16.2.1 t32)else none)else none)else none)else none)else(ZaF.l1 0 t23.2.1 t23.2.2.1 t23.2.2.2 0 t11.1 t16.1 t16.2.1 ([]:List Int)):=by kernel_rfl
theorem ZaF.j0_eq (b0_0:List Int) (b0_1:Int) (b0_2:Int) (b2_0:Int) (b3_0:List (List Int)) (b4_0:Int) (b4_1:List Int) (r5:List Int):ZaF.j0 b0_0 b0_1 b0_2 b2_0 b3_0 b4_0 b4_1 r5=some (b3_0,b4_0,b4_1,r5,b0_0,b0_1,b0_2):=by kernel_rfl
theorem ZaF.l1_eq (x9:Int) (b0_0:List Int) (b0_1:Int) (b0_2:Int) (b2_0:Int) (b3_0:List (List Int)) (b4_0:Int) (b4_1:List Int) (r5:List Int):ZaF.l1 x9 b0_0 b0_1 b0_2 b2_0 b3_0 b4_0 b4_1 r5=(Zao.f b3_0).bind fun t35=>if x9 < t35 then((Zac.f b0_0 b0_1 b0_2 b4_0).bind fun t43=>if r5.length+([t43.1]:List Int).length≤17592186044416 then(ZaF.l1 (wrapI (x9+1)) t43.2.1 t43.2.2.1 t43.2.2.2 b2_0 b3_0 b4_0 b4_1 (r5++([t43.1]:List Int)))else none)else(ZaF.j0 b0_0 b0_1 b0_2 b2_0 b3_0 b4_0 b4_1 r5):=(Zv _ _ _ _).trans (by kernel_rfl)
noncomputable def ZaF.con:Con:=⟨ZaF.fn.ins,ZaF.fn.outs,(List (List Int))×Int×(List Int)×(List Int)×(List Int)×Int×Int,fun x=>ZaF.f x.1 x.2.1 x.2.2.1,fun r=>((r.1,r.2.1,r.2.2.1,r.2.2.2.1,()),(r.2.2.2.2.1,r.2.2.2.2.2.1,r.2.2.2.2.2.2,()))⟩
theorem ZaF.valid:Valid Tryz.prog 169 ZaF.con:=fnV ZaF.fn ZaF.E ZaF.enc ⟨ttOk,(Zs ZbC.valid (Zs ZbA.valid (Zs Zbr.valid (Zs Zn.valid (Zs Zac.valid (Zs ZaJ.valid (Zs Zao.valid Zaq)))))))⟩ Tryz.func169
end Go.Proofs.YthmcpmnhdbeahaaGreat.P
namespace Go.Proofs.YthmcpmnhdbeahaaGreat.P
open Go Go.RowKit Go.Proofs.YthmcpmnhdbeahaaGreat.D
noncomputable def ZbD.E:Env:={ tt:=TT,con:=[(232,ZaV.con),(174,Zac.con),(91,Zao.con),(175,Za2.con),(184,ZaJ.con)],frz:=[33,36,45,49,66],rows:=[46,1000010,1000014],live:=[(8,[4,5]),(10,[4,5]),(11,[4,5]),(14,[4,5,7]),(15,[4,5])],n:=68,pin:=1,nils:=[] }
noncomputable def ZbD.fn:D.Fn:={ body:=Tryz.f170.body.getD .skip,res:=Tryz.f170.results.toList,ins:=[.ptr false 143 [.v (.sl 5 (.int .u8)),.v (.int .i64),.v (.int .u64)],.agg [.v (.sl 27 (.sl 2 (.int .i64)))]],outs:=[.agg [.v (.sl 27 (.sl 2 (.int .i64)))]] }
def ZbD.enc (y:lsd (flats ZbD.fn.outs)×lsd (ios ZbD.fn.ins)):(List (List Int))×(List Int)×Int×Int:=(y.1.1,y.2.1,y.2.2.1,y.2.2.2.1)
noncomputable def ZbD.f (l0_0:List Int) (a0_1:Int) (a0_2:Int) (l1_0:List (List Int)):Option ((List (List Int))×(List Int)×Int×Int):=denF ZbD.E ZbD.fn ZbD.enc (l0_0,a0_1,a0_2,l1_0,())
theorem ZbD.f_eq (l0_0:List Int) (a0_1:Int) (a0_2:Int) (l1_0:List (List Int)):ZbD.f l0_0 a0_1 a0_2 l1_0=(ZaV.f l1_0).bind fun t9=>(Zac.f l0_0 a0_1 a0_2 50).bind fun t11=>if t11.1=0 then(some (([]:List (List Int)),t11.2.1,t11.2.2.1,t11.2.2.2))else(if t11.1=1 then((Zao.f l1_0).bind fun t21=>(Zac.f t11.2.1 t11.2.2.1 t11.2.2.2 t21).bind fun t22=>if 0≤t22.1 then(if t22.1 < (t9.length:Int)then(if 0≤t22.1 then(if t22.1 < (t9.length:Int)then((Zao.f l1_0).bind fun t28=>(Zac.f t22.2.1 t22.2.2.1 t22.2.2.2 t28).bind fun t29=>(Zao.f l1_0).bind fun t32=>(Za2.f t29.2.1 t29.2.2.1 t29.2.2.2 ([0,1,-1,t32]:List Int)).bind fun t34=>if 0≤t29.1 then(if t29.1 < ((row t9 t22.1).length:Int)then(if 0≤t29.1 then(if t29.1 < ((row t9 t22.1).length:Int)then(some (t9.set (t22.1:Int).toNat ((row t9 t22.1).set (t29.1:Int).toNat t34.1),t34.2.1,t34.2.2.1,t34.2.2.2))else none)else none)else none)else none)else none)else none)else none)else none)else(if t11.1=2 then(if 0 < (t9.length:Int)then(if 0 < (t9.length:Int)then((ZaJ.f (row t9 0)).bind fun t45=>if t9.length+([t45]:List (List Int)).length≤5864062014805 then(some (t9++([t45]:List (List Int)),t11.2.1,t11.2.2.1,t11.2.2.2))else none)else none)else none)else(if t11.1=3 then((Zao.f l1_0).bind fun t54=>(Zac.f t11.2.1 t11.2.2.1 t11.2.2.2 t54).bind fun t55=>if 0≤t55.1 then(if t55.1 < (t9.length:Int)then(if 0≤t55.1 then(if t55.1 < (t9.length:Int)then(if 1≤((row t9 t55.1).length:Int)then(if 0≤t55.1 then(if t55.1 < (t9.length:Int)then(if 0≤t55.1 then(if t55.1 < (t9.length:Int)then(some (t9.set (t55.1:Int).toNat ((row t9 t55.1).drop (1:Int).toNat),t55.2.1,t55.2.2.1,t55.2.2.2))else none)else none)else none)else none)else none)else none)else none)else none)else none)else(some (l1_0,t11.2.1,t11.2.2.1,t11.2.2.2))))):=by kernel_rfl
noncomputable def ZbD.con:Con:=⟨ZbD.fn.ins,ZbD.fn.outs,(List (List Int))×(List Int)×Int×Int,fun x=>ZbD.f x.1 x.2.1 x.2.2.1 x.2.2.2.1,fun r=>((r.1,()),(r.2.1,r.2.2.1,r.2.2.2,()))⟩
theorem ZbD.valid:Valid Tryz.prog 170 ZbD.con:=fnV ZbD.fn ZbD.E ZbD.enc ⟨ttOk,(Zs ZaV.valid (Zs Zac.valid (Zs Zao.valid (Zs Za2.valid (Zs ZaJ.valid Zaq)))))⟩ Tryz.func170
end Go.Proofs.YthmcpmnhdbeahaaGreat.P
namespace Go.Proofs.YthmcpmnhdbeahaaGreat.P
open Go Go.RowKit Go.Proofs.YthmcpmnhdbeahaaGreat.D
noncomputable def ZbE.E:Env:={ tt:=TT,con:=[(174,Zac.con),(175,Za2.con),(184,ZaJ.con)],frz:=[13,32,43],rows:=[],live:=[],n:=44,pin:=1,nils:=[] }
noncomputable def ZbE.fn:D.Fn:={ body:=Tryz.f171.body.getD .skip,res:=Tryz.f171.results.toList,ins:=[.ptr false 143 [.v (.sl 5 (.int .u8)),.v (.int .i64),.v (.int .u64)],.agg [.v (.int .i64),.v (.sl 2 (.int .i64))]],outs:=[.agg [.v (.int .i64),.v (.sl 2 (.int .i64))]] }
def ZbE.enc (y:lsd (flats ZbE.fn.outs)×lsd (ios ZbE.fn.ins)):Int×(List Int)×(List Int)×Int×Int:=(y.1.1,y.1.2.1,y.2.1,y.2.2.1,y.2.2.2.1)
noncomputable def ZbE.f (l0_0:List Int) (a0_1:Int) (a0_2:Int) (a1_0:Int) (l1_1:List Int):Option (Int×(List Int)×(List Int)×Int×Int):=denF ZbE.E ZbE.fn ZbE.enc (l0_0,a0_1,a0_2,a1_0,l1_1,())
theorem ZbE.f_eq (l0_0:List Int) (a0_1:Int) (a0_2:Int) (a1_0:Int) (l1_1:List Int):ZbE.f l0_0 a0_1 a0_2 a1_0 l1_1=(Zac.f l0_0 a0_1 a0_2 40).bind fun t6=>if t6.1=0 then((Za2.f t6.2.1 t6.2.2.1 t6.2.2.2 ([1,13,wrapI (a1_0+1),0]:List Int)).bind fun t14=>some (t14.1,l1_1,t14.2.1,t14.2.2.1,t14.2.2.2))else(if t6.1=1 then((ZaJ.f l1_1).bind fun t20=>(Zac.f t6.2.1 t6.2.2.1 t6.2.2.2 (t20.length:Int)).bind fun t28=>(Za2.f t28.2.1 t28.2.2.1 t28.2.2.2 ([0,-1,2,3,a1_0]:List Int)).bind fun t33=>if 0≤t28.1 then(if t28.1 < (t20.length:Int)then(if 0≤t28.1 then(if t28.1 < (t20.length:Int)then(some (a1_0,t20.set (t28.1:Int).toNat t33.1,t33.2.1,t33.2.2.1,t33.2.2.2))else none)else none)else none)else none)else(if t6.1=2 then((ZaJ.f l1_1).bind fun t39=>if t39.length+([1]:List Int).length≤17592186044416 then(some (a1_0,t39++([1]:List Int),t6.2.1,t6.2.2.1,t6.2.2.2))else none)else(some (a1_0,l1_1,t6.2.1,t6.2.2.1,t6.2.2.2)))):=by kernel_rfl
noncomputable def ZbE.con:Con:=⟨ZbE.fn.ins,ZbE.fn.outs,Int×(List Int)×(List Int)×Int×Int,fun x=>ZbE.f x.1 x.2.1 x.2.2.1 x.2.2.2.1 x.2.2.2.2.1,fun r=>((r.1,r.2.1,()),(r.2.2.1,r.2.2.2.1,r.2.2.2.2,()))⟩
theorem ZbE.valid:Valid Tryz.prog 171 ZbE.con:=fnV ZbE.fn ZbE.E ZbE.enc ⟨ttOk,(Zs Zac.valid (Zs Za2.valid (Zs ZaJ.valid Zaq)))⟩ Tryz.func171
end Go.Proofs.YthmcpmnhdbeahaaGreat.P
namespace Go.Proofs.YthmcpmnhdbeahaaGreat.P
open Go Go.RowKit Go.Proofs.YthmcpmnhdbeahaaGreat.D
noncomputable def Zbd.E:Env:={ tt:=TT,con:=[(100,ZaW.con),(169,ZaF.con),(174,Zac.con),(170,ZbD.con),(171,ZbE.con),(175,Za2.con)],frz:=[30],rows:=[],live:=[],n:=40,pin:=0,nils:=[] }
noncomputable def Zbd.fn:D.Fn:={ body:=Tryz.f88.body.getD .skip,res:=Tryz.f88.results.toList,ins:=[.one (.v (.sl 5 (.int .u8)))],outs:=[.agg [.v (.sl 27 (.sl 2 (.int .i64)))],.agg [.v (.int .i64),.v (.sl 2 (.int .i64))],.one (.own 2 true (.int .i64))] }
def Zbd.enc (y:lsd (flats Zbd.fn.outs)×lsd (ios Zbd.fn.ins)):(List (List Int))×Int×(List Int)×(List Int):=(y.1.1,y.1.2.1,y.1.2.2.1,y.1.2.2.2.1)
noncomputable def Zbd.f (l0:List Int):Option ((List (List Int))×Int×(List Int)×(List Int)):=denF Zbd.E Zbd.fn Zbd.enc (l0,())
theorem Zbd.f_eq (l0:List Int):Zbd.f l0=(ZaW.f l0).bind fun t10=>(ZaF.f t10.1 t10.2.1 t10.2.2).bind fun t13=>(Zac.f t13.2.2.2.2.1 t13.2.2.2.2.2.1 t13.2.2.2.2.2.2 24).bind fun t18=>if t18.1=0 then(if t13.2.2.2.1.length+([0]:List Int).length≤17592186044416 then((ZbD.f t18.2.1 t18.2.2.1 t18.2.2.2 t13.1).bind fun t35=>(ZbE.f t35.2.1 t35.2.2.1 t35.2.2.2 t13.2.1 t13.2.2.1).bind fun t38=>some (t35.1,t38.1,t38.2.1,t13.2.2.2.1++([0]:List Int)))else none)else(if t18.1=1 then((Za2.f t18.2.1 t18.2.2.1 t18.2.2.2 ([-1,t13.2.1]:List Int)).bind fun t31=>if 0 < (t13.2.2.2.1.length:Int)then(if 0 < (t13.2.2.2.1.length:Int)then((ZbD.f t31.2.1 t31.2.2.1 t31.2.2.2 t13.1).bind fun t35=>(ZbE.f t35.2.1 t35.2.2.1 t35.2.2.2 t13.2.1 t13.2.2.1).bind fun t38=>some (t35.1,t38.1,t38.2.1,t13.2.2.2.1.set (0:Int).toNat t31.1))else none)else none)else((ZbD.f t18.2.1 t18.2.2.1 t18.2.2.2 t13.1).bind fun t35=>(ZbE.f t35.2.1 t35.2.2.1 t35.2.2.2 t13.2.1 t13.2.2.1).bind fun t38=>some (t35.1,t38.1,t38.2.1,t13.2.2.2.1))):=by kernel_rfl
noncomputable def Zbd.con:Con:=⟨Zbd.fn.ins,Zbd.fn.outs,(List (List Int))×Int×(List Int)×(List Int),fun x=>Zbd.f x.1,fun r=>((r.1,r.2.1,r.2.2.1,r.2.2.2,()),(()))⟩
theorem Zbd.valid:Valid Tryz.prog 88 Zbd.con:=fnV Zbd.fn Zbd.E Zbd.enc ⟨ttOk,(Zs ZaW.valid (Zs ZaF.valid (Zs Zac.valid (Zs ZbD.valid (Zs ZbE.valid (Zs Za2.valid Zaq))))))⟩ Tryz.func88
end Go.Proofs.YthmcpmnhdbeahaaGreat.P
namespace Go.Proofs.YthmcpmnhdbeahaaGreat.P
open Go Go.RowKit Go.Proofs.YthmcpmnhdbeahaaGreat.D
noncomputable def Zbc.E:Env:={ tt:=TT,con:=[(88,Zbd.con)],frz:=[],rows:=[],live:=[],n:=15,pin:=0,nils:=[] }
noncomputable def Zbc.fn:D.Fn:={ body:=Tryz.f106.body.getD .skip,res:=Tryz.f106.results.toList,ins:=[.one (.v (.sl 5 (.int .u8)))],outs:=[.agg [.v (.sl 27 (.sl 2 (.int .i64)))],.agg [.v (.int .i64),.v (.sl 2 (.int .i64))]] }
def Zbc.enc (y:lsd (flats Zbc.fn.outs)×lsd (ios Zbc.fn.ins)):(List (List Int))×Int×(List Int):=(y.1.1,y.1.2.1,y.1.2.2.1)
noncomputable def Zbc.f (l0:List Int):Option ((List (List Int))×Int×(List Int)):=denF Zbc.E Zbc.fn Zbc.enc (l0,())
theorem Zbc.f_eq (l0:List Int):Zbc.f l0=(Zbd.f l0).bind fun t9=>some (t9.1,t9.2.1,t9.2.2.1):=by kernel_rfl
noncomputable def Zbc.con:Con:=⟨Zbc.fn.ins,Zbc.fn.outs,(List (List Int))×Int×(List Int),fun x=>Zbc.f x.1,fun r=>((r.1,r.2.1,r.2.2,()),(()))⟩
theorem Zbc.valid:Valid Tryz.prog 106 Zbc.con:=fnV Zbc.fn Zbc.E Zbc.enc ⟨ttOk,(Zs Zbd.valid Zaq)⟩ Tryz.func106
end Go.Proofs.YthmcpmnhdbeahaaGreat.P
namespace Go.Proofs.YthmcpmnhdbeahaaGreat.P
open Go Go.RowKit Go.Proofs.YthmcpmnhdbeahaaGreat.D
noncomputable def Zaz.E:Env:={ tt:=TT,con:=[(106,Zbc.con)],frz:=[],rows:=[],live:=[],n:=13,pin:=0,nils:=[] }
noncomputable def Zaz.fn:D.Fn:={ body:=Tryz.f27.body.getD .skip,res:=Tryz.f27.results.toList,ins:=[.one (.v (.sl 5 (.int .u8)))],outs:=[.agg [.v (.sl 27 (.sl 2 (.int .i64)))],.agg [.v (.int .i64),.v (.sl 2 (.int .i64))]] }
def Zaz.enc (y:lsd (flats Zaz.fn.outs)×lsd (ios Zaz.fn.ins)):(List (List Int))×Int×(List Int):=(y.1.1,y.1.2.1,y.1.2.2.1)
noncomputable def Zaz.f (l0:List Int):Option ((List (List Int))×Int×(List Int)):=denF Zaz.E Zaz.fn Zaz.enc (l0,())
theorem Zaz.f_eq (l0:List Int):Zaz.f l0=(Zbc.f l0).bind fun t8=>some (t8.1,t8.2.1,t8.2.2):=by kernel_rfl
noncomputable def Zaz.con:Con:=⟨Zaz.fn.ins,Zaz.fn.outs,(List (List Int))×Int×(List Int),fun x=>Zaz.f x.1,fun r=>((r.1,r.2.1,r.2.2,()),(()))⟩
theorem Zaz.valid:Valid Tryz.prog 27 Zaz.con:=fnV Zaz.fn Zaz.E Zaz.enc ⟨ttOk,(Zs Zbc.valid Zaq)⟩ Tryz.func27
end Go.Proofs.YthmcpmnhdbeahaaGreat.P
namespace Go.Proofs.YthmcpmnhdbeahaaGreat.P
open Go Go.RowKit Go.Proofs.YthmcpmnhdbeahaaGreat.D
noncomputable def ZaZ.E:Env:={ tt:=TT,con:=[],frz:=[],rows:=[],live:=[],n:=27,pin:=0,nils:=[] }
noncomputable def ZaZ.fn:D.Fn:={ body:=Tryz.f212.body.getD .skip,res:=Tryz.f212.results.toList,ins:=[.non,.one (.v (.int .i64))],outs:=[.one (.own 2 true (.int .i64))] }
def ZaZ.enc (y:lsd (flats ZaZ.fn.outs)×lsd (ios ZaZ.fn.ins)):(List Int):=y.1.1
noncomputable def ZaZ.f (a1:Int):Option (List Int):=denF ZaZ.E ZaZ.fn ZaZ.enc (a1,())
theorem ZaZ.f_eq (a1:Int):ZaZ.f a1=if a1 < 0 then none else(if(wrapI (a1 - (wrapI (0 - 0)))) > 0 then(if 0 < wrapI (a1 - (wrapI (0 - 0)))then(if(wrapI (a1 - (wrapI (0 - 0))):Int).toNat≤17592186044416 then(if 0 < ((List.replicate (wrapI (a1 - (wrapI (0 - 0))):Int).toNat (0:Int)).length:Int)then(if 0≤((List.replicate (wrapI (a1 - (wrapI (0 - 0))):Int).toNat (0:Int)).length:Int)then(some ((List.replicate (wrapI (a1 - (wrapI (0 - 0))):Int).toNat (0:Int)).take (0:Int).toNat))else none)else none)else none)else none)else(some ([]:List Int))):=by kernel_rfl
noncomputable def ZaZ.con:Con:=⟨ZaZ.fn.ins,ZaZ.fn.outs,(List Int),fun x=>ZaZ.f x.1,fun r=>((r,()),(()))⟩
theorem ZaZ.valid:Valid Tryz.prog 212 ZaZ.con:=fnV ZaZ.fn ZaZ.E ZaZ.enc ⟨ttOk,Zaq⟩ Tryz.func212
end Go.Proofs.YthmcpmnhdbeahaaGreat.P
namespace Go.Proofs.YthmcpmnhdbeahaaGreat.P
open Go Go.RowKit Go.Proofs.YthmcpmnhdbeahaaGreat.D
noncomputable def ZA.E:Env:={ tt:=TT,con:=[(212,ZaZ.con)],frz:=[],rows:=[],live:=[(3,[0,3,9,10,11]),(11,[6,25,26,27])],n:=36,pin:=0,nils:=[] }
noncomputable def ZA.fn:D.Fn:={ body:=Tryz.f137.body.getD .skip,res:=Tryz.f137.results.toList,ins:=[.one (.v (.sl 27 (.sl 2 (.int .i64))))],outs:=[.one (.own 2 true (.int .i64))] }
def ZA.enc (y:lsd (flats ZA.fn.outs)×lsd (ios ZA.fn.ins)):(List Int):=y.1.1
noncomputable def ZA.f (l0:List (List Int)):Option (List Int):=denF ZA.E ZA.fn ZA.enc (l0,())
noncomputable def ZA.l0 (x0:List (List Int)) (x3:Int) (x9:List (List Int)) (x10:Int) (x11:Int):Option (List Int):=denAt ZA.E ZA.fn ZA.enc [1,1,0,1,0] { fr:=[(0,.lf (.sl (.sl 2 (.int .i64)) x0)),(3,.lf (.int .i64 x3)),(9,.lf (.sl (.sl 2 (.int .i64)) x9)),(10,.lf (.int .i64 x10)),(11,.lf (.int .i64 x11))],ob:=[],nx:=0 }
noncomputable def ZA.l1 (x25:List (List Int)) (x26:Int) (x27:Int) (r0:List Int):Option (List Int):=denAt ZA.E ZA.fn ZA.enc [1,1,1,1,0,1,0] { fr:=[(6,.lf (.own 0)),(25,.lf (.sl (.sl 2 (.int .i64)) x25)),(26,.lf (.int .i64 x26)),(27,.lf (.int .i64 x27))],ob:=[(0,.row 2 true (.int .i64) r0)],nx:=1 }
theorem ZA.f_eq (l0:List (List Int)):ZA.f l0=ZA.l0 l0 0 l0 (l0.length:Int) 0:=by kernel_rfl
theorem ZA.l0_eq (x0:List (List Int)) (x3:Int) (x9:List (List Int)) (x10:Int) (x11:Int):ZA.l0 x0 x3 x9 x10 x11=if x11 < x10 then(if 0≤x11 then(if x11 < (x9.length:Int)then(if(wrapI (x3+((row x9 x11).length:Int))) < 0 then none else(ZA.l0 x0 (wrapI (x3+((row x9 x11).length:Int))) x9 x10 (wrapI (x11+1))))else none)else none)else((ZaZ.f x3).bind fun t24=>ZA.l1 x0 (x0.length:Int) 0 t24):=(Zv _ _ _ _).trans (by kernel_rfl)
theorem ZA.l1_eq (x25:List (List Int)) (x26:Int) (x27:Int) (r0:List Int):ZA.l1 x25 x26 x27 r0=if x27 < x26 then(if 0≤x27 then(if x27 < (x25.length:Int)then(if r0.length+(row x25 x27).length≤17592186044416 then(ZA.l1 x25 x26 (wrapI (x27+1)) (r0++(row x25 x27)))else none)else none)else none)else(some r0):=(Zv _ _ _ _).trans (by kernel_rfl)
noncomputable def ZA.con:Con:=⟨ZA.fn.ins,ZA.fn.outs,(List Int),fun x=>ZA.f x.1,fun r=>((r,()),(()))⟩
theorem ZA.valid:Valid Tryz.prog 137 ZA.con:=fnV ZA.fn ZA.E ZA.enc ⟨ttOk,(Zs ZaZ.valid Zaq)⟩ Tryz.func137
end Go.Proofs.YthmcpmnhdbeahaaGreat.P
namespace Go.Proofs.YthmcpmnhdbeahaaGreat.P
open Go Go.RowKit Go.Proofs.YthmcpmnhdbeahaaGreat.D
noncomputable def Zbw.E:Env:={ tt:=TT,con:=[],frz:=[],rows:=[],live:=[(3,[0,5,6,7])],n:=14,pin:=0,nils:=[] }
noncomputable def Zbw.fn:D.Fn:={ body:=Tryz.f265.body.getD .skip,res:=Tryz.f265.results.toList,ins:=[.one (.v (.int .i64)),.one (.v (.int .i64))],outs:=[.one (.v (.int .i64))] }
def Zbw.enc (y:lsd (flats Zbw.fn.outs)×lsd (ios Zbw.fn.ins)):Int:=y.1.1
noncomputable def Zbw.f (a0:Int) (a1:Int):Option Int:=denF Zbw.E Zbw.fn Zbw.enc (a0,a1,())
noncomputable def Zbw.l0 (x0:Int) (x5:Int) (x6:Int) (x7:Int):Option Int:=denAt Zbw.E Zbw.fn Zbw.enc [1,1,0,1,0] { fr:=[(0,.lf (.int .i64 x0)),(5,.lf (.int .i64 x5)),(6,.lf (.int .i64 x6)),(7,.lf (.int .i64 x7))],ob:=[],nx:=0 }
theorem Zbw.f_eq (a0:Int) (a1:Int):Zbw.f a0 a1=Zbw.l0 a0 1 a1 0:=by kernel_rfl
theorem Zbw.l0_eq (x0:Int) (x5:Int) (x6:Int) (x7:Int):Zbw.l0 x0 x5 x6 x7=if x7 < x6 then(Zbw.l0 x0 (wrapI (x5*x0)) x6 (wrapI (x7+1)))else(some x5):=(Zv _ _ _ _).trans (by kernel_rfl)
noncomputable def Zbw.con:Con:=⟨Zbw.fn.ins,Zbw.fn.outs,Int,fun x=>Zbw.f x.1 x.2.1,fun r=>((r,()),(()))⟩
theorem Zbw.valid:Valid Tryz.prog 265 Zbw.con:=fnV Zbw.fn Zbw.E Zbw.enc ⟨ttOk,Zaq⟩ Tryz.func265
end Go.Proofs.YthmcpmnhdbeahaaGreat.P
namespace Go.Proofs.YthmcpmnhdbeahaaGreat.P
open Go Go.RowKit Go.Proofs.YthmcpmnhdbeahaaGreat.D
noncomputable def ZbG.E:Env:={ tt:=TT,con:=[(139,Zan.con),(265,Zbw.con)],frz:=[],rows:=[],live:=[],n:=10,pin:=0,nils:=[] }
noncomputable def ZbG.fn:D.Fn:={ body:=Tryz.f228.body.getD .skip,res:=Tryz.f228.results.toList,ins:=[.agg [.v (.sl 27 (.sl 2 (.int .i64)))],.one (.v (.int .i64))],outs:=[.one (.v (.int .i64))] }
def ZbG.enc (y:lsd (flats ZbG.fn.outs)×lsd (ios ZbG.fn.ins)):Int:=y.1.1
noncomputable def ZbG.f (l0_0:List (List Int)) (a1:Int):Option Int:=denF ZbG.E ZbG.fn ZbG.enc (l0_0,a1,())
theorem ZbG.f_eq (l0_0:List (List Int)) (a1:Int):ZbG.f l0_0 a1=(Zan.f l0_0).bind fun t6=>(Zbw.f (wrapI (t6 - 1)) a1).bind fun t9=>some t9:=by kernel_rfl
noncomputable def ZbG.con:Con:=⟨ZbG.fn.ins,ZbG.fn.outs,Int,fun x=>ZbG.f x.1 x.2.1,fun r=>((r,()),(()))⟩
theorem ZbG.valid:Valid Tryz.prog 228 ZbG.con:=fnV ZbG.fn ZbG.E ZbG.enc ⟨ttOk,(Zs Zan.valid (Zs Zbw.valid Zaq))⟩ Tryz.func228
end Go.Proofs.YthmcpmnhdbeahaaGreat.P
namespace Go.Proofs.YthmcpmnhdbeahaaGreat.P
open Go Go.RowKit Go.Proofs.YthmcpmnhdbeahaaGreat.D
noncomputable def ZbO.E:Env:={ tt:=TT,con:=[(228,ZbG.con)],frz:=[],rows:=[],live:=[],n:=11,pin:=0,nils:=[] }
noncomputable def ZbO.fn:D.Fn:={ body:=Tryz.f211.body.getD .skip,res:=Tryz.f211.results.toList,ins:=[.agg [.v (.sl 27 (.sl 2 (.int .i64)))],.one (.v (.int .i64))],outs:=[.agg [.v (.int .i64),.own 2 true (.int .i64)]] }
def ZbO.enc (y:lsd (flats ZbO.fn.outs)×lsd (ios ZbO.fn.ins)):Int×(List Int):=(y.1.1,y.1.2.1)
noncomputable def ZbO.f (l0_0:List (List Int)) (a1:Int):Option (Int×(List Int)):=denF ZbO.E ZbO.fn ZbO.enc (l0_0,a1,())
theorem ZbO.f_eq (l0_0:List (List Int)) (a1:Int):ZbO.f l0_0 a1=(ZbG.f l0_0 a1).bind fun t8=>if t8=t8 then(if 0≤t8 then(if(t8:Int).toNat≤17592186044416 then(some (a1,List.replicate (t8:Int).toNat (0:Int)))else none)else none)else none:=by kernel_rfl
noncomputable def ZbO.con:Con:=⟨ZbO.fn.ins,ZbO.fn.outs,Int×(List Int),fun x=>ZbO.f x.1 x.2.1,fun r=>((r.1,r.2,()),(()))⟩
theorem ZbO.valid:Valid Tryz.prog 211 ZbO.con:=fnV ZbO.fn ZbO.E ZbO.enc ⟨ttOk,(Zs ZbG.valid Zaq)⟩ Tryz.func211
end Go.Proofs.YthmcpmnhdbeahaaGreat.P
namespace Go.Proofs.YthmcpmnhdbeahaaGreat.P
open Go Go.RowKit Go.Proofs.YthmcpmnhdbeahaaGreat.D
noncomputable def Zbf.E:Env:={ tt:=TT,con:=[(139,Zan.con)],frz:=[],rows:=[],live:=[(3,[2,7,8,9])],n:=32,pin:=0,nils:=[] }
noncomputable def Zbf.fn:D.Fn:={ body:=Tryz.f284.body.getD .skip,res:=Tryz.f284.results.toList,ins:=[.agg [.v (.sl 27 (.sl 2 (.int .i64)))],.one (.v (.int .i64)),.one (.v (.int .i64))],outs:=[.one (.own 2 true (.int .i64))] }
def Zbf.enc (y:lsd (flats Zbf.fn.outs)×lsd (ios Zbf.fn.ins)):(List Int):=y.1.1
noncomputable def Zbf.f (l0_0:List (List Int)) (a1:Int) (a2:Int):Option (List Int):=denF Zbf.E Zbf.fn Zbf.enc (l0_0,a1,a2,())
noncomputable def Zbf.l0 (x2:Int) (x8:Int) (x9:Int) (r0:List Int):Option (List Int):=denAt Zbf.E Zbf.fn Zbf.enc [1,1,0,1,0] { fr:=[(2,.lf (.int .i64 x2)),(7,.lf (.own 0)),(8,.lf (.int .i64 x8)),(9,.lf (.int .i64 x9))],ob:=[(0,.row 2 true (.int .i64) r0)],nx:=1 }
theorem Zbf.f_eq (l0_0:List (List Int)) (a1:Int) (a2:Int):Zbf.f l0_0 a1 a2=if a1=a1 then(if 0≤a1 then(if(a1:Int).toNat≤17592186044416 then((Zan.f l0_0).bind fun t13=>Zbf.l0 a2 (wrapI (t13 - 1)) (wrapI (a1 - 1)) (List.replicate (a1:Int).toNat (0:Int)))else none)else none)else none:=by kernel_rfl
theorem Zbf.l0_eq (x2:Int) (x8:Int) (x9:Int) (r0:List Int):Zbf.l0 x2 x8 x9 r0=if x9≥0 then(if x8=0 then none else(if 0≤x9 then(if x9 < (r0.length:Int)then(if 0≤x9 then(if x9 < (r0.length:Int)then(if x8=0 then none else(Zbf.l0 (wrapI ((x2:Int).tdiv x8)) x8 (wrapI (x9 - 1)) (r0.set (x9:Int).toNat (wrapI (1+((x2:Int).tmod x8))))))else none)else none)else none)else none))else(some r0):=(Zv _ _ _ _).trans (by kernel_rfl)
noncomputable def Zbf.con:Con:=⟨Zbf.fn.ins,Zbf.fn.outs,(List Int),fun x=>Zbf.f x.1 x.2.1 x.2.2.1,fun r=>((r,()),(()))⟩
theorem Zbf.valid:Valid Tryz.prog 284 Zbf.con:=fnV Zbf.fn Zbf.E Zbf.enc ⟨ttOk,(Zs Zan.valid Zaq)⟩ Tryz.func284
end Go.Proofs.YthmcpmnhdbeahaaGreat.P
namespace Go.Proofs.YthmcpmnhdbeahaaGreat.P
open Go Go.RowKit Go.Proofs.YthmcpmnhdbeahaaGreat.D
noncomputable def ZbI.E:Env:={ tt:=TT,con:=[(211,ZbO.con),(284,Zbf.con)],frz:=[],rows:=[],live:=[(3,[1,2,3,4,8,9,16,17])],n:=38,pin:=0,nils:=[] }
noncomputable def ZbI.fn:D.Fn:={ body:=Tryz.f249.body.getD .skip,res:=Tryz.f249.results.toList,ins:=[.agg [.v (.sl 27 (.sl 2 (.int .i64)))],.one (.v (.int .i64)),.one (.v (.int .i64)),.one (.fn [(.sl 2 (.int .i64))] (.int .i64))],outs:=[.agg [.v (.int .i64),.own 2 true (.int .i64)]] }
def ZbI.enc (y:lsd (flats ZbI.fn.outs)×lsd (ios ZbI.fn.ins)):Int×(List Int):=(y.1.1,y.1.2.1)
noncomputable def ZbI.f (l0_0:List (List Int)) (a1:Int) (a2:Int) (f3:(List Int)→Option Int):Option (Int×(List Int)):=denF ZbI.E ZbI.fn ZbI.enc (l0_0,a1,a2,fun x=>f3 x.1,())
noncomputable def ZbI.l0 (x1:Int) (x2:Int) (fx3:(List Int)→Option Int) (x16:Int) (x17:Int) (b0_0:List (List Int)) (b1_0:Int) (b2_0:Int) (r3:List Int):Option (Int×(List Int)):=denAt ZbI.E ZbI.fn ZbI.enc [1,1,0,1,0] { fr:=[(1,.lf (.int .i64 x1)),(2,.lf (.int .i64 x2)),(3,.lf (.fn [(.sl 2 (.int .i64))] (.int .i64) (fun x=>fx3 x.1))),(4,.lf (.box 0 0)),(8,.lf (.box 1 0)),(9,.lf (.box 2 0)),(16,.lf (.int .i64 x16)),(17,.lf (.int .i64 x17))],ob:=[(0,.box 26 false [.sl (.sl 2 (.int .i64)) b0_0]),(1,.box 56 false [.int .i64 b1_0,.nil]),(2,.box 56 false [.int .i64 b2_0,.own 3]),(3,.row 2 true (.int .i64) r3)],nx:=4 }
theorem ZbI.f_eq (l0_0:List (List Int)) (a1:Int) (a2:Int) (f3:(List Int)→Option Int):ZbI.f l0_0 a1 a2 f3=(ZbO.f l0_0 a2).bind fun t13=>ZbI.l0 a1 a2 f3 (t13.2.length:Int) 0 l0_0 0 t13.1 t13.2:=by kernel_rfl
theorem ZbI.l0_eq (x1:Int) (x2:Int) (fx3:(List Int)→Option Int) (x16:Int) (x17:Int) (b0_0:List (List Int)) (b1_0:Int) (b2_0:Int) (r3:List Int):ZbI.l0 x1 x2 fx3 x16 x17 b0_0 b1_0 b2_0 r3=if x17 < x16 then((Zbf.f b0_0 x2 x17).bind fun t27=>(fx3 t27).bind fun t28=>if x1=0 then none else(if x1=0 then none else(if 0≤x17 then(if x17 < (r3.length:Int)then(if 0≤x17 then(if x17 < (r3.length:Int)then(ZbI.l0 x1 x2 fx3 x16 (wrapI (x17+1)) b0_0 b1_0 b2_0 (r3.set (x17:Int).toNat ((wrapI (((t28:Int).tmod x1)+x1):Int).tmod x1)))else none)else none)else none)else none)))else(some (b2_0,r3)):=(Zv _ _ _ _).trans (by kernel_rfl)
noncomputable def ZbI.con:Con:=⟨ZbI.fn.ins,ZbI.fn.outs,Int×(List Int),fun x=>ZbI.f x.1 x.2.1 x.2.2.1 (fun z0=>x.2.2.2.1 (z0,())),fun r=>((r.1,r.2,()),(()))⟩
theorem ZbI.valid:Valid Tryz.prog 249 ZbI.con:=fnV ZbI.fn ZbI.E ZbI.enc ⟨ttOk,(Zs ZbO.valid (Zs Zbf.valid Zaq))⟩ Tryz.func249
end Go.Proofs.YthmcpmnhdbeahaaGreat.P
namespace Go.Proofs.YthmcpmnhdbeahaaGreat.P
open Go Go.RowKit Go.Proofs.YthmcpmnhdbeahaaGreat.D
noncomputable def ZbB.E:Env:={ tt:=TT,con:=[(139,Zan.con)],frz:=[],rows:=[],live:=[(3,[2,5,8,9,10])],n:=26,pin:=0,nils:=[] }
noncomputable def ZbB.fn:D.Fn:={ body:=Tryz.f257.body.getD .skip,res:=Tryz.f257.results.toList,ins:=[.agg [.v (.sl 27 (.sl 2 (.int .i64)))],.one (.v (.sl 2 (.int .i64)))],outs:=[.one (.v (.int .i64))] }
def ZbB.enc (y:lsd (flats ZbB.fn.outs)×lsd (ios ZbB.fn.ins)):Int:=y.1.1
noncomputable def ZbB.f (l0_0:List (List Int)) (l1:List Int):Option Int:=denF ZbB.E ZbB.fn ZbB.enc (l0_0,l1,())
noncomputable def ZbB.l0 (x5:Int) (x8:List Int) (x9:Int) (x10:Int) (b0_0:List (List Int)):Option Int:=denAt ZbB.E ZbB.fn ZbB.enc [1,1,0,1,0] { fr:=[(2,.lf (.box 0 0)),(5,.lf (.int .i64 x5)),(8,.lf (.sl (.int .i64) x8)),(9,.lf (.int .i64 x9)),(10,.lf (.int .i64 x10))],ob:=[(0,.box 26 false [.sl (.sl 2 (.int .i64)) b0_0])],nx:=1 }
theorem ZbB.f_eq (l0_0:List (List Int)) (l1:List Int):ZbB.f l0_0 l1=ZbB.l0 0 l1 (l1.length:Int) 0 l0_0:=by kernel_rfl
theorem ZbB.l0_eq (x5:Int) (x8:List Int) (x9:Int) (x10:Int) (b0_0:List (List Int)):ZbB.l0 x5 x8 x9 x10 b0_0=if x10 < x9 then(if 0≤x10 then(if x10 < (x8.length:Int)then(if(rd x8 x10)=0 then(some (-1))else((Zan.f b0_0).bind fun t18=>ZbB.l0 (wrapI ((wrapI ((wrapI (x5*(wrapI (t18 - 1))))+(rd x8 x10))) - 1)) x8 x9 (wrapI (x10+1)) b0_0))else none)else none)else(some x5):=(Zv _ _ _ _).trans (by kernel_rfl)
noncomputable def ZbB.con:Con:=⟨ZbB.fn.ins,ZbB.fn.outs,Int,fun x=>ZbB.f x.1 x.2.1,fun r=>((r,()),(()))⟩
theorem ZbB.valid:Valid Tryz.prog 257 ZbB.con:=fnV ZbB.fn ZbB.E ZbB.enc ⟨ttOk,(Zs Zan.valid Zaq)⟩ Tryz.func257
end Go.Proofs.YthmcpmnhdbeahaaGreat.P
namespace Go.Proofs.YthmcpmnhdbeahaaGreat.P
open Go Go.RowKit Go.Proofs.YthmcpmnhdbeahaaGreat.D
noncomputable def Za1.E:Env:={ tt:=TT,con:=[(257,ZbB.con)],frz:=[],rows:=[],live:=[],n:=18,pin:=0,nils:=[] }
noncomputable def Za1.fn:D.Fn:={ body:=Tryz.f205.body.getD .skip,res:=Tryz.f205.results.toList,ins:=[.agg [.v (.int .i64),.v (.sl 2 (.int .i64))],.agg [.v (.sl 27 (.sl 2 (.int .i64)))],.one (.v (.sl 2 (.int .i64)))],outs:=[.one (.v (.int .i64))] }
def Za1.enc (y:lsd (flats Za1.fn.outs)×lsd (ios Za1.fn.ins)):Int:=y.1.1
noncomputable def Za1.f (a0_0:Int) (l0_1:List Int) (l1_0:List (List Int)) (l2:List Int):Option Int:=denF Za1.E Za1.fn Za1.enc (a0_0,l0_1,l1_0,l2,())
theorem Za1.f_eq (a0_0:Int) (l0_1:List Int) (l1_0:List (List Int)) (l2:List Int):Za1.f a0_0 l0_1 l1_0 l2=(ZbB.f l1_0 l2).bind fun t10=>if t10≥0 then(if 0≤t10 then(if t10 < (l0_1.length:Int)then(some (rd l0_1 t10))else none)else none)else(some 0):=by kernel_rfl
noncomputable def Za1.con:Con:=⟨Za1.fn.ins,Za1.fn.outs,Int,fun x=>Za1.f x.1 x.2.1 x.2.2.1 x.2.2.2.1,fun r=>((r,()),(()))⟩
theorem Za1.valid:Valid Tryz.prog 205 Za1.con:=fnV Za1.fn Za1.E Za1.enc ⟨ttOk,(Zs ZbB.valid Zaq)⟩ Tryz.func205
end Go.Proofs.YthmcpmnhdbeahaaGreat.P
namespace Go.Proofs.YthmcpmnhdbeahaaGreat.P
open Go Go.RowKit Go.Proofs.YthmcpmnhdbeahaaGreat.D
noncomputable def Zav.E:Env:={ tt:=TT,con:=[(205,Za1.con),(172,ZY.con)],frz:=[],rows:=[],live:=[(5,[3,4,6,9,10,11,30,31])],n:=79,pin:=0,nils:=[] }
noncomputable def Zav.fn:D.Fn:={ body:=Tryz.f251.body.getD .skip,res:=Tryz.f251.results.toList,ins:=[.agg [.v (.sl 27 (.sl 2 (.int .i64)))],.agg [.v (.int .i64),.v (.sl 2 (.int .i64))],.agg [.v (.int .i64),.v (.sl 2 (.int .i64))],.one (.v (.sl 2 (.int .i64)))],outs:=[.one (.v (.int .i64))] }
def Zav.enc (y:lsd (flats Zav.fn.outs)×lsd (ios Zav.fn.ins)):Int:=y.1.1
noncomputable def Zav.f (l0_0:List (List Int)) (a1_0:Int) (l1_1:List Int) (a2_0:Int) (l2_1:List Int) (l3:List Int):Option Int:=denF Zav.E Zav.fn Zav.enc (l0_0,a1_0,l1_1,a2_0,l2_1,l3,())
noncomputable def Zav.l0 (x3:List Int) (x9:Int) (x10:Int) (x11:Int) (x30:Int) (x31:Int) (b0_0:List (List Int)) (b1_0:Int) (b1_1:List Int):Option Int:=denAt Zav.E Zav.fn Zav.enc [1,1,1,1,0,1,0] { fr:=[(3,.lf (.sl (.int .i64) x3)),(4,.lf (.box 0 0)),(6,.lf (.box 1 0)),(9,.lf (.int .i64 x9)),(10,.lf (.int .i64 x10)),(11,.lf (.int .i64 x11)),(30,.lf (.int .i64 x30)),(31,.lf (.int .i64 x31))],ob:=[(0,.box 26 false [.sl (.sl 2 (.int .i64)) b0_0]),(1,.box 56 false [.int .i64 b1_0,.sl (.int .i64) b1_1])],nx:=2 }
theorem Zav.f_eq (l0_0:List (List Int)) (a1_0:Int) (l1_1:List Int) (a2_0:Int) (l2_1:List Int) (l3:List Int):Zav.f l0_0 a1_0 l1_1 a2_0 l2_1 l3=if 0 < (l3.length:Int)then(if 0≤rd l3 0 then(if rd l3 0 < (l1_1.length:Int)then(if 1≤(l3.length:Int)then((Za1.f a2_0 l2_1 l0_0 (l3.drop (1:Int).toNat)).bind fun t28=>Zav.l0 l3 (wrapI ((l3.length:Int) - 1)) (wrapI ((rd l1_1 (rd l3 0))*t28)) (-1) (wrapI ((l3.length:Int) - 1)) 0 l0_0 a2_0 l2_1)else none)else none)else none)else none:=by kernel_rfl
theorem Zav.l0_eq (x3:List Int) (x9:Int) (x10:Int) (x11:Int) (x30:Int) (x31:Int) (b0_0:List (List Int)) (b1_0:Int) (b1_1:List Int):Zav.l0 x3 x9 x10 x11 x30 x31 b0_0 b1_0 b1_1=if x31 < x30 then(if 0≤x31 then(if x31≤(x3.length:Int)then(if([]:List Int).length+(x3.take (x31:Int).toNat).length≤17592186044416 then(if 0≤x31 then(if x31 < (x3.length:Int)then(if 0≤wrapI (x31+1)then(if wrapI (x31+1) < (x3.length:Int)then((ZY.f b0_0 ([rd x3 x31,rd x3 (wrapI (x31+1))]:List Int)).bind fun t50=>if(([]:List Int)++(x3.take (x31:Int).toNat)).length+([t50]:List Int).length≤17592186044416 then(if 0≤wrapI (x31+2)then(if wrapI (x31+2)≤(x3.length:Int)then(if((([]:List Int)++(x3.take (x31:Int).toNat))++([t50]:List Int)).length+(x3.drop (wrapI (x31+2):Int).toNat).length≤17592186044416 then((Za1.f b1_0 b1_1 b0_0 (((([]:List Int)++(x3.take (x31:Int).toNat))++([t50]:List Int))++(x3.drop (wrapI (x31+2):Int).toNat))).bind fun t63=>Zav.l0 x3 x9 (wrapI (x10+(wrapI (x11*t63)))) (wrapI (0 - x11)) x30 (wrapI (x31+1)) b0_0 b1_0 b1_1)else none)else none)else none)else none)else none)else none)else none)else none)else none)else none)else none)else(if 0≤x9 then(if x9≤(x3.length:Int)then((Za1.f b1_0 b1_1 b0_0 (x3.take (x9:Int).toNat)).bind fun t76=>some (wrapI (x10+(wrapI (x11*t76)))))else none)else none):=(Zv _ _ _ _).trans (by kernel_rfl)
noncomputable def Zav.con:Con:=⟨Zav.fn.ins,Zav.fn.outs,Int,fun x=>Zav.f x.1 x.2.1 x.2.2.1 x.2.2.2.1 x.2.2.2.2.1 x.2.2.2.2.2.1,fun r=>((r,()),(()))⟩
theorem Zav.valid:Valid Tryz.prog 251 Zav.con:=fnV Zav.fn Zav.E Zav.enc ⟨ttOk,(Zs Za1.valid (Zs ZY.valid Zaq))⟩ Tryz.func251
end Go.Proofs.YthmcpmnhdbeahaaGreat.P
namespace Go.Proofs.YthmcpmnhdbeahaaGreat.P
open Go Go.RowKit Go.Proofs.YthmcpmnhdbeahaaGreat.D
noncomputable def Za8.E:Env:={ tt:=TT,con:=[(251,Zav.con)],frz:=[],rows:=[],live:=[],n:=11,pin:=0,nils:=[] }
noncomputable def Za8.fn:D.Fn:={ body:=Tryz.f250.body.getD .skip,res:=Tryz.f250.results.toList,ins:=[.one (.v (.sl 2 (.int .i64))),.ptr true 26 [.v (.sl 27 (.sl 2 (.int .i64)))],.ptr true 29 [.v (.int .i64),.v (.sl 2 (.int .i64))],.ptr true 56 [.v (.int .i64),.v (.sl 2 (.int .i64))]],outs:=[.one (.v (.int .i64))] }
def Za8.enc (y:lsd (flats Za8.fn.outs)×lsd (ios Za8.fn.ins)):Int:=y.1.1
noncomputable def Za8.f (l0:List Int) (l1:List (List Int)) (a2_0:Int) (l2_1:List Int) (a3_0:Int) (l3_1:List Int):Option Int:=denF Za8.E Za8.fn Za8.enc (l0,l1,a2_0,l2_1,a3_0,l3_1,())
theorem Za8.f_eq (l0:List Int) (l1:List (List Int)) (a2_0:Int) (l2_1:List Int) (a3_0:Int) (l3_1:List Int):Za8.f l0 l1 a2_0 l2_1 a3_0 l3_1=(Zav.f l1 a2_0 l2_1 a3_0 l3_1 l0).bind fun t10=>some t10:=by kernel_rfl
noncomputable def Za8.con:Con:=⟨Za8.fn.ins,Za8.fn.outs,Int,fun x=>Za8.f x.1 x.2.1 x.2.2.1 x.2.2.2.1 x.2.2.2.2.1 x.2.2.2.2.2.1,fun r=>((r,()),(()))⟩
theorem Za8.valid:Valid Tryz.prog 250 Za8.con:=fnV Za8.fn Za8.E Za8.enc ⟨ttOk,(Zs Zav.valid Zaq)⟩ Tryz.func250
end Go.Proofs.YthmcpmnhdbeahaaGreat.P
namespace Go.Proofs.YthmcpmnhdbeahaaGreat.P
open Go Go.RowKit Go.Proofs.YthmcpmnhdbeahaaGreat.D
noncomputable def Zbh.E:Env:={ tt:=TT,con:=[(249,ZbI.con),(250,Za8.con)],frz:=[],rows:=[],live:=[],n:=15,pin:=0,nils:=[] }
noncomputable def Zbh.fn:D.Fn:={ body:=Tryz.f192.body.getD .skip,res:=Tryz.f192.results.toList,ins:=[.agg [.v (.sl 27 (.sl 2 (.int .i64)))],.agg [.v (.int .i64),.v (.sl 2 (.int .i64))],.agg [.v (.int .i64),.v (.sl 2 (.int .i64))]],outs:=[.agg [.v (.int .i64),.own 2 true (.int .i64)]] }
def Zbh.enc (y:lsd (flats Zbh.fn.outs)×lsd (ios Zbh.fn.ins)):Int×(List Int):=(y.1.1,y.1.2.1)
noncomputable def Zbh.f (l0_0:List (List Int)) (a1_0:Int) (l1_1:List Int) (a2_0:Int) (l2_1:List Int):Option (Int×(List Int)):=denF Zbh.E Zbh.fn Zbh.enc (l0_0,a1_0,l1_1,a2_0,l2_1,())
theorem Zbh.f_eq (l0_0:List (List Int)) (a1_0:Int) (l1_1:List Int) (a2_0:Int) (l2_1:List Int):Zbh.f l0_0 a1_0 l1_1 a2_0 l2_1=(ZbI.f l0_0 a1_0 (wrapI (a2_0+1)) (fun z0=>(Za8.f z0 l0_0 a1_0 l1_1 a2_0 l2_1).map fun z=>z)).bind fun t14=>some (t14.1,t14.2):=by kernel_rfl
noncomputable def Zbh.con:Con:=⟨Zbh.fn.ins,Zbh.fn.outs,Int×(List Int),fun x=>Zbh.f x.1 x.2.1 x.2.2.1 x.2.2.2.1 x.2.2.2.2.1,fun r=>((r.1,r.2,()),(()))⟩
theorem Zbh.valid:Valid Tryz.prog 192 Zbh.con:=fnV Zbh.fn Zbh.E Zbh.enc ⟨ttOk,(Zs ZbI.valid (Zs Za8.valid Zaq))⟩ Tryz.func192
end Go.Proofs.YthmcpmnhdbeahaaGreat.P
namespace Go.Proofs.YthmcpmnhdbeahaaGreat.P
open Go Go.RowKit Go.Proofs.YthmcpmnhdbeahaaGreat.D
noncomputable def Zbv.E:Env:={ tt:=TT,con:=[],frz:=[],rows:=[7],live:=[],n:=10,pin:=0,nils:=[7] }
noncomputable def Zbv.fn:D.Fn:={ body:=Tryz.f227.body.getD .skip,res:=Tryz.f227.results.toList,ins:=[.one (.v (.int .i64)),.one (.v (.int .i64))],outs:=[.ptr false 187 [.v (.int .i64),.own 27 false (.sl 1000002 (.int .i64))]] }
def Zbv.enc (y:lsd (flats Zbv.fn.outs)×lsd (ios Zbv.fn.ins)):Int×(List (List Int)):=(y.1.1,y.1.2.1)
noncomputable def Zbv.f (a0:Int) (a1:Int):Option (Int×(List (List Int))):=denF Zbv.E Zbv.fn Zbv.enc (a0,a1,())
theorem Zbv.f_eq (a0:Int) (a1:Int):Zbv.f a0 a1=if a1=a1 then(if 0≤a1 then(if(a1:Int).toNat≤5864062014805 then(some (a0,List.replicate (a1:Int).toNat ([]:List Int)))else none)else none)else none:=by kernel_rfl
noncomputable def Zbv.con:Con:=⟨Zbv.fn.ins,Zbv.fn.outs,Int×(List (List Int)),fun x=>Zbv.f x.1 x.2.1,fun r=>((r.1,r.2,()),(()))⟩
theorem Zbv.valid:Valid Tryz.prog 227 Zbv.con:=fnV Zbv.fn Zbv.E Zbv.enc ⟨ttOk,Zaq⟩ Tryz.func227
end Go.Proofs.YthmcpmnhdbeahaaGreat.P
namespace Go.Proofs.YthmcpmnhdbeahaaGreat.P
open Go Go.RowKit Go.Proofs.YthmcpmnhdbeahaaGreat.D
noncomputable def Zh.E:Env:={ tt:=TT,con:=[],frz:=[],rows:=[],live:=[(2,[0,1,7,8])],n:=19,pin:=0,nils:=[] }
noncomputable def Zh.fn:D.Fn:={ body:=Tryz.f219.body.getD .skip,res:=Tryz.f219.results.toList,ins:=[.one (.v (.sl 2 (.int .i64))),.one (.fn [(.int .i64)] .bool)],outs:=[.one (.v (.int .i64))] }
def Zh.enc (y:lsd (flats Zh.fn.outs)×lsd (ios Zh.fn.ins)):Int:=y.1.1
noncomputable def Zh.f (l0:List Int) (f1:Int→Option Bool):Option Int:=denF Zh.E Zh.fn Zh.enc (l0,fun x=>f1 x.1,())
noncomputable def Zh.l0 (x0:List Int) (fx1:Int→Option Bool) (x7:Int) (x8:Int):Option Int:=denAt Zh.E Zh.fn Zh.enc [1,0,1,0] { fr:=[(0,.lf (.sl (.int .i64) x0)),(1,.lf (.fn [(.int .i64)] .bool (fun x=>fx1 x.1))),(7,.lf (.int .i64 x7)),(8,.lf (.int .i64 x8))],ob:=[],nx:=0 }
theorem Zh.f_eq (l0:List Int) (f1:Int→Option Bool):Zh.f l0 f1=Zh.l0 l0 f1 (l0.length:Int) 0:=by kernel_rfl
theorem Zh.l0_eq (x0:List Int) (fx1:Int→Option Bool) (x7:Int) (x8:Int):Zh.l0 x0 fx1 x7 x8=if x8 < x7 then(if 0≤x8 then(if x8 < (x0.length:Int)then((fx1 (rd x0 x8)).bind fun t16=>if t16=true then(some x8)else(Zh.l0 x0 fx1 x7 (wrapI (x8+1))))else none)else none)else(some (-1)):=(Zv _ _ _ _).trans (by kernel_rfl)
noncomputable def Zh.con:Con:=⟨Zh.fn.ins,Zh.fn.outs,Int,fun x=>Zh.f x.1 (fun z0=>x.2.1 (z0,())),fun r=>((r,()),(()))⟩
theorem Zh.valid:Valid Tryz.prog 219 Zh.con:=fnV Zh.fn Zh.E Zh.enc ⟨ttOk,Zaq⟩ Tryz.func219
end Go.Proofs.YthmcpmnhdbeahaaGreat.P
namespace Go.Proofs.YthmcpmnhdbeahaaGreat.P
open Go Go.RowKit Go.Proofs.YthmcpmnhdbeahaaGreat.D
noncomputable def ZG.E:Env:={ tt:=TT,con:=[],frz:=[],rows:=[],live:=[(3,[0,1,3,4,11,17,18,19])],n:=54,pin:=0,nils:=[] }
noncomputable def ZG.fn:D.Fn:={ body:=Tryz.f247.body.getD .skip,res:=Tryz.f247.results.toList,ins:=[.ptr true 187 [.v (.int .i64),.v (.sl 27 (.sl 1000002 (.int .i64)))],.one (.v (.int .i64)),.one (.v (.sl 2 (.int .i64))),.one (.v (.int .i64)),.one (.v (.sl 2 (.int .i64)))],outs:=[.one (.own 2 true (.int .i64))] }
def ZG.enc (y:lsd (flats ZG.fn.outs)×lsd (ios ZG.fn.ins)):(List Int):=y.1.1
noncomputable def ZG.f (a0_0:Int) (l0_1:List (List Int)) (a1:Int) (l2:List Int) (a3:Int) (l4:List Int):Option (List Int):=denF ZG.E ZG.fn ZG.enc (a0_0,l0_1,a1,l2,a3,l4,())
noncomputable def ZG.l0 (x1:Int) (x3:Int) (x4:List Int) (x17:List Int) (x18:Int) (x19:Int) (b0_0:Int) (b0_1:List (List Int)) (r1:List Int):Option (List Int):=denAt ZG.E ZG.fn ZG.enc [1,1,0,1,0] { fr:=[(0,.lf (.box 0 0)),(1,.lf (.int .i64 x1)),(3,.lf (.int .i64 x3)),(4,.lf (.sl (.int .i64) x4)),(11,.lf (.own 1)),(17,.lf (.sl (.int .i64) x17)),(18,.lf (.int .i64 x18)),(19,.lf (.int .i64 x19))],ob:=[(0,.box 187 true [.int .i64 b0_0,.sl (.sl 1000002 (.int .i64)) b0_1]),(1,.row 2 true (.int .i64) r1)],nx:=2 }
theorem ZG.f_eq (a0_0:Int) (l0_1:List (List Int)) (a1:Int) (l2:List Int) (a3:Int) (l4:List Int):ZG.f a0_0 l0_1 a1 l2 a3 l4=if(l2.length:Int)=(l2.length:Int)then(if 0≤(l2.length:Int)then(if((l2.length:Int):Int).toNat≤17592186044416 then(ZG.l0 a1 a3 l4 l2 (l2.length:Int) 0 a0_0 l0_1 (List.replicate ((l2.length:Int):Int).toNat (0:Int)))else none)else none)else none:=by kernel_rfl
theorem ZG.l0_eq (x1:Int) (x3:Int) (x4:List Int) (x17:List Int) (x18:Int) (x19:Int) (b0_0:Int) (b0_1:List (List Int)) (r1:List Int):ZG.l0 x1 x3 x4 x17 x18 x19 b0_0 b0_1 r1=if x19 < x18 then(if 0≤x19 then(if x19 < (x17.length:Int)then(if 0≤x19 then(if x19 < (x4.length:Int)then(if b0_0=0 then none else(if b0_0=0 then none else(if 0≤x19 then(if x19 < (r1.length:Int)then(if 0≤x19 then(if x19 < (r1.length:Int)then(ZG.l0 x1 x3 x4 x17 x18 (wrapI (x19+1)) b0_0 b0_1 (r1.set (x19:Int).toNat ((wrapI (((wrapI ((wrapI (x1*(rd x17 x19)))+(wrapI (x3*(rd x4 x19)))):Int).tmod b0_0)+b0_0):Int).tmod b0_0)))else none)else none)else none)else none)))else none)else none)else none)else none)else(some r1):=(Zv _ _ _ _).trans (by kernel_rfl)
noncomputable def ZG.con:Con:=⟨ZG.fn.ins,ZG.fn.outs,(List Int),fun x=>ZG.f x.1 x.2.1 x.2.2.1 x.2.2.2.1 x.2.2.2.2.1 x.2.2.2.2.2.1,fun r=>((r,()),(()))⟩
theorem ZG.valid:Valid Tryz.prog 247 ZG.con:=fnV ZG.fn ZG.E ZG.enc ⟨ttOk,Zaq⟩ Tryz.func247
end Go.Proofs.YthmcpmnhdbeahaaGreat.P
namespace Go.Proofs.YthmcpmnhdbeahaaGreat.P
open Go Go.RowKit Go.Proofs.YthmcpmnhdbeahaaGreat.D
noncomputable def Za4.E:Env:={ tt:=TT,con:=[],frz:=[],rows:=[],live:=[],n:=5,pin:=0,nils:=[] }
noncomputable def Za4.fn:D.Fn:={ body:=Tryz.f266.body.getD .skip,res:=Tryz.f266.results.toList,ins:=[.one (.v (.int .i64))],outs:=[.one (.v .bool)] }
def Za4.enc (y:lsd (flats Za4.fn.outs)×lsd (ios Za4.fn.ins)):Bool:=y.1.1
noncomputable def Za4.f (a0:Int):Option Bool:=denF Za4.E Za4.fn Za4.enc (a0,())
theorem Za4.f_eq (a0:Int):Za4.f a0=some (!decide (a0=0)):=by kernel_rfl
noncomputable def Za4.con:Con:=⟨Za4.fn.ins,Za4.fn.outs,Bool,fun x=>Za4.f x.1,fun r=>((r,()),(()))⟩
theorem Za4.valid:Valid Tryz.prog 266 Za4.con:=fnV Za4.fn Za4.E Za4.enc ⟨ttOk,Zaq⟩ Tryz.func266
end Go.Proofs.YthmcpmnhdbeahaaGreat.P
namespace Go.Proofs.YthmcpmnhdbeahaaGreat.P
open Go Go.RowKit Go.Proofs.YthmcpmnhdbeahaaGreat.D
noncomputable def ZH.E:Env:={ tt:=TT,con:=[(152,ZbL.con)],frz:=[],rows:=[],live:=[(3,[0,1,2,9,23,24]),(6,[0,1,2,9,10,23,24,30,31])],n:=55,pin:=0,nils:=[] }
noncomputable def ZH.fn:D.Fn:={ body:=Tryz.f267.body.getD .skip,res:=Tryz.f267.results.toList,ins:=[.ptr true 187 [.v (.int .i64),.v (.sl 27 (.sl 1000002 (.int .i64)))],.one (.v (.int .i64)),.one (.v (.int .i64))],outs:=[.one (.v (.int .i64)),.one (.v (.int .i64)),.one (.v (.int .i64))] }
def ZH.enc (y:lsd (flats ZH.fn.outs)×lsd (ios ZH.fn.ins)):Int×Int×Int:=(y.1.1,y.1.2.1,y.1.2.2.1)
noncomputable def ZH.f (a0_0:Int) (l0_1:List (List Int)) (a1:Int) (a2:Int):Option (Int×Int×Int):=denF ZH.E ZH.fn ZH.enc (a0_0,l0_1,a1,a2,())
noncomputable def ZH.l0 (x1:Int) (x2:Int) (x9:Int) (x23:Int) (x24:Int) (b0_0:Int) (b0_1:List (List Int)):Option (Int×Int×Int):=denAt ZH.E ZH.fn ZH.enc [1,1,0,1,0] { fr:=[(0,.lf (.box 0 0)),(1,.lf (.int .i64 x1)),(2,.lf (.int .i64 x2)),(9,.lf (.int .i64 x9)),(23,.lf (.int .i64 x23)),(24,.lf (.int .i64 x24))],ob:=[(0,.box 187 true [.int .i64 b0_0,.sl (.sl 1000002 (.int .i64)) b0_1])],nx:=1 }
noncomputable def ZH.l1 (x1:Int) (x2:Int) (x9:Int) (x10:Int) (x23:Int) (x24:Int) (x30:Int) (x31:Int) (b0_0:Int) (b0_1:List (List Int)):Option (Int×Int×Int):=denAt ZH.E ZH.fn ZH.enc [1,1,0,1,0,0,1,1,0,0,1,1,0] { fr:=[(0,.lf (.box 0 0)),(1,.lf (.int .i64 x1)),(2,.lf (.int .i64 x2)),(9,.lf (.int .i64 x9)),(10,.lf (.int .i64 x10)),(23,.lf (.int .i64 x23)),(24,.lf (.int .i64 x24)),(30,.lf (.int .i64 x30)),(31,.lf (.int .i64 x31))],ob:=[(0,.box 187 true [.int .i64 b0_0,.sl (.sl 1000002 (.int .i64)) b0_1])],nx:=1 }
theorem ZH.f_eq (a0_0:Int) (l0_1:List (List Int)) (a1:Int) (a2:Int):ZH.f a0_0 l0_1 a1 a2=(ZbL.f a1 a2).bind fun t14=>(ZbL.f t14 a0_0).bind fun t19=>ZH.l0 a1 a2 t19 a0_0 0 a0_0 l0_1:=by kernel_rfl
theorem ZH.l0_eq (x1:Int) (x2:Int) (x9:Int) (x23:Int) (x24:Int) (b0_0:Int) (b0_1:List (List Int)):ZH.l0 x1 x2 x9 x23 x24 b0_0 b0_1=if x24 < x23 then(ZH.l1 x1 x2 x9 x24 x23 x24 b0_0 0 b0_0 b0_1)else(some (0,0,x9)):=(Zv _ _ _ _).trans (by kernel_rfl)
theorem ZH.l1_eq (x1:Int) (x2:Int) (x9:Int) (x10:Int) (x23:Int) (x24:Int) (x30:Int) (x31:Int) (b0_0:Int) (b0_1:List (List Int)):ZH.l1 x1 x2 x9 x10 x23 x24 x30 x31 b0_0 b0_1=if x31 < x30 then(if b0_0=0 then none else(if((wrapI ((wrapI ((wrapI (x10*x1))+(wrapI (x31*x2)))) - x9):Int).tmod b0_0)=0 then(some (x10,x31,x9))else(ZH.l1 x1 x2 x9 x10 x23 x24 x30 (wrapI (x31+1)) b0_0 b0_1)))else(ZH.l0 x1 x2 x9 x23 (wrapI (x24+1)) b0_0 b0_1):=(Zv _ _ _ _).trans (by kernel_rfl)
noncomputable def ZH.con:Con:=⟨ZH.fn.ins,ZH.fn.outs,Int×Int×Int,fun x=>ZH.f x.1 x.2.1 x.2.2.1 x.2.2.2.1,fun r=>((r.1,r.2.1,r.2.2,()),(()))⟩
theorem ZH.valid:Valid Tryz.prog 267 ZH.con:=fnV ZH.fn ZH.E ZH.enc ⟨ttOk,(Zs ZbL.valid Zaq)⟩ Tryz.func267
end Go.Proofs.YthmcpmnhdbeahaaGreat.P
namespace Go.Proofs.YthmcpmnhdbeahaaGreat.P
open Go Go.RowKit Go.Proofs.YthmcpmnhdbeahaaGreat.D
noncomputable def ZS.E:Env:={ tt:=TT,con:=[(219,Zh.con),(266,Za4.con),(267,ZH.con),(247,ZG.con)],frz:=[43,75,97,116,127,137],rows:=[13,76,138],live:=[(1,[0,4]),(9,[0,4,5,6,7])],n:=140,pin:=1,nils:=[] }
noncomputable def ZS.fn:D.Fn:={ body:=Tryz.f229.body.getD .skip,res:=Tryz.f229.results.toList,ins:=[.ptr false 187 [.v (.int .i64),.own 27 false (.sl 1000002 (.int .i64))],.one (.v (.sl 2 (.int .i64)))],outs:=[] }
def ZS.enc (y:lsd (flats ZS.fn.outs)×lsd (ios ZS.fn.ins)):Int×(List (List Int)):=(y.2.1,y.2.2.1)
noncomputable def ZS.f (a0_0:Int) (l0_1:List (List Int)) (l1:List Int):Option (Int×(List (List Int))):=denF ZS.E ZS.fn ZS.enc (a0_0,l0_1,l1,())
noncomputable def ZS.l0 (b0_0:Int) (r1:List (List Int)) (r2:List (List Int)):Option (Int×(List (List Int))):=denAt ZS.E ZS.fn ZS.enc [1,0] { fr:=[(0,.lf (.box 0 0)),(4,.lf (.own 2))],ob:=[(0,.box 187 false [.int .i64 b0_0,.own 1]),(1,.row 27 false (.sl 1000002 (.int .i64)) r1),(2,.row 27 false (.sl 2 (.int .i64)) r2)],nx:=3 }
noncomputable def ZS.j1 (x5:List Int) (x6:Int) (x7:List Int) (b0_0:Int) (r1:List (List Int)) (r2:List (List Int)):Option (Int×(List (List Int))):=denAt ZS.E ZS.fn ZS.enc [1,0,0,1,0,1,1,1,1,1,1] { fr:=[(0,.lf (.box 0 0)),(4,.lf (.own 2)),(5,.lf (.sl (.int .i64) x5)),(6,.lf (.int .i64 x6)),(7,.lf (.sl (.int .i64) x7))],ob:=[(0,.box 187 false [.int .i64 b0_0,.own 1]),(1,.row 27 false (.sl 1000002 (.int .i64)) r1),(2,.row 27 false (.sl 2 (.int .i64)) r2)],nx:=3 }
theorem ZS.f_eq (a0_0:Int) (l0_1:List (List Int)) (l1:List Int):ZS.f a0_0 l0_1 l1=ZS.l0 a0_0 l0_1 ([l1]:List (List Int)):=by kernel_rfl
theorem ZS.l0_eq (b0_0:Int) (r1:List (List Int)) (r2:List (List Int)):ZS.l0 b0_0 r1 r2=if(r2.length:Int) > 0 then(if 0≤wrapI ((r2.length:Int) - 1)then(if wrapI ((r2.length:Int) - 1) < (r2.length:Int)then(if 0≤wrapI ((r2.length:Int) - 1)then(if wrapI ((r2.length:Int) - 1) < (r2.length:Int)then(if 0 < (r2.length:Int)then(if 0≤wrapI ((r2.length:Int) - 1)then(if wrapI ((r2.length:Int) - 1)≤(r2.length:Int)then((Zh.f (row r2 (wrapI ((r2.length:Int) - 1))) (fun z0=>(Za4.f z0).map fun z=>z)).bind fun t29=>if t29 < 0 then(ZS.l0 b0_0 r1 (r2.take (wrapI ((r2.length:Int) - 1):Int).toNat))else(if 0≤t29 then(if t29 < (r1.length:Int)then(if 0≤t29 then(if t29 < (r1.length:Int)then(if(row r1 t29).length=0 then(if((row r2 (wrapI ((r2.length:Int) - 1))).length:Int)=((row r2 (wrapI ((r2.length:Int) - 1))).length:Int)then(if 0≤((row r2 (wrapI ((r2.length:Int) - 1))).length:Int)then(if(((row r2 (wrapI ((r2.length:Int) - 1))).length:Int):Int).toNat≤17592186044416 then(ZS.j1 (row r2 (wrapI ((r2.length:Int) - 1))) t29 (List.replicate (((row r2 (wrapI ((r2.length:Int) - 1))).length:Int):Int).toNat (0:Int)) b0_0 r1 (r2.take (wrapI ((r2.length:Int) - 1):Int).toNat))else none)else none)else none)else(if 0 < (row r1 t29).length then(ZS.j1 (row r2 (wrapI ((r2.length:Int) - 1))) t29 (row r1 t29) b0_0 r1 (r2.take (wrapI ((r2.length:Int) - 1):Int).toNat))else none))else none)else none)else none)else none))else none)else none)else none)else none)else none)else none)else none)else(some (b0_0,r1)):=(Zv _ _ _ _).trans (by kernel_rfl)
theorem ZS.j1_eq (x5:List Int) (x6:Int) (x7:List Int) (b0_0:Int) (r1:List (List Int)) (r2:List (List Int)):ZS.j1 x5 x6 x7 b0_0 r1 r2=if 0≤x6 then(if x6 < (x7.length:Int)then(if(rd x7 x6)=0 then(if 0≤x6 then(if x6 < (x7.length:Int)then(if 0≤x6 then(if x6 < (x5.length:Int)then((ZH.f b0_0 r1 (rd x7 x6) (rd x5 x6)).bind fun t88=>(ZG.f b0_0 r1 t88.1 x7 t88.2.1 x5).bind fun t97=>if 0≤x6 then(if x6 < (r1.length:Int)then(if 0≤x6 then(if x6 < (r1.length:Int)then(if 0 < t97.length then(if 0≤x6 then(if x6 < (x7.length:Int)then(if t88.2.2=0 then none else((ZG.f b0_0 (r1.set (x6:Int).toNat t97) 1 x7 (wrapI ((wrapI (0 - (rd x7 x6)):Int).tdiv t88.2.2)) t97).bind fun t116=>if 0≤x6 then(if x6 < (x5.length:Int)then(if t88.2.2=0 then none else((ZG.f b0_0 (r1.set (x6:Int).toNat t97) 1 x5 (wrapI ((wrapI (0 - (rd x5 x6)):Int).tdiv t88.2.2)) t97).bind fun t127=>if t88.2.2=0 then none else((ZG.f b0_0 (r1.set (x6:Int).toNat t97) (wrapI ((b0_0:Int).tdiv t88.2.2)) t97 0 t97).bind fun t137=>if r2.length+([t116,t127,t137]:List (List Int)).length≤5864062014805 then(ZS.l0 b0_0 (r1.set (x6:Int).toNat t97) (r2++([t116,t127,t137]:List (List Int))))else none)))else none)else none))else none)else none)else none)else none)else none)else none)else none)else none)else none)else none)else none)else(if 0≤x6 then(if x6 < (x5.length:Int)then(if 0≤x6 then(if x6 < (x7.length:Int)then(if(rd x7 x6)=0 then none else(if((rd x5 x6:Int).tmod (rd x7 x6))=0 then(if 0≤x6 then(if x6 < (x5.length:Int)then(if 0≤x6 then(if x6 < (x7.length:Int)then(if(rd x7 x6)=0 then none else((ZG.f b0_0 r1 1 x5 (wrapI ((wrapI (0 - (rd x5 x6)):Int).tdiv (rd x7 x6))) x7).bind fun t75=>if r2.length+([t75]:List (List Int)).length≤5864062014805 then(ZS.l0 b0_0 r1 (r2++([t75]:List (List Int))))else none))else none)else none)else none)else none)else(if 0≤x6 then(if x6 < (x7.length:Int)then(if 0≤x6 then(if x6 < (x5.length:Int)then((ZH.f b0_0 r1 (rd x7 x6) (rd x5 x6)).bind fun t88=>(ZG.f b0_0 r1 t88.1 x7 t88.2.1 x5).bind fun t97=>if 0≤x6 then(if x6 < (r1.length:Int)then(if 0≤x6 then(if x6 < (r1.length:Int)then(if 0 < t97.length then(if 0≤x6 then(if x6 < (x7.length:Int)then(if t88.2.2=0 then none else((ZG.f b0_0 (r1.set (x6:Int).toNat t97) 1 x7 (wrapI ((wrapI (0 - (rd x7 x6)):Int).tdiv t88.2.2)) t97).bind fun t116=>if 0≤x6 then(if x6 < (x5.length:Int)then(if t88.2.2=0 then none else((ZG.f b0_0 (r1.set (x6:Int).toNat t97) 1 x5 (wrapI ((wrapI (0 - (rd x5 x6)):Int).tdiv t88.2.2)) t97).bind fun t127=>if t88.2.2=0 then none else((ZG.f b0_0 (r1.set (x6:Int).toNat t97) (wrapI ((b0_0:Int).tdiv t88.2.2)) t97 0 t97).bind fun t137=>if r2.length+([t116,t127,t137]:List (List Int)).length≤5864062014805 then(ZS.l0 b0_0 (r1.set (x6:Int).toNat t97) (r2++([t116,t127,t137]:List (List Int))))else none)))else none)else none))else none)else none)else none)else none)else none)else none)else none)else none)else none)else none)else none)))else none)else none)else none)else none))else none)else none:=by kernel_rfl
noncomputable def ZS.con:Con:=⟨ZS.fn.ins,ZS.fn.outs,Int×(List (List Int)),fun x=>ZS.f x.1 x.2.1 x.2.2.1,fun r=>((()),(r.1,r.2,()))⟩
theorem ZS.valid:Valid Tryz.prog 229 ZS.con:=fnV ZS.fn ZS.E ZS.enc ⟨ttOk,(Zs Zh.valid (Zs Za4.valid (Zs ZH.valid (Zs ZG.valid Zaq))))⟩ Tryz.func229
end Go.Proofs.YthmcpmnhdbeahaaGreat.P
namespace Go.Proofs.YthmcpmnhdbeahaaGreat.P
open Go Go.RowKit Go.Proofs.YthmcpmnhdbeahaaGreat.D
noncomputable def Za5.E:Env:={ tt:=TT,con:=[(228,ZbG.con),(227,Zbv.con),(211,ZbO.con),(192,Zbh.con),(137,ZA.con),(229,ZS.con)],frz:=[46],rows:=[],live:=[(5,[2,3,4,8,10,26,27])],n:=51,pin:=0,nils:=[] }
noncomputable def Za5.fn:D.Fn:={ body:=Tryz.f223.body.getD .skip,res:=Tryz.f223.results.toList,ins:=[.agg [.v (.sl 27 (.sl 2 (.int .i64)))],.agg [.v (.int .i64),.v (.sl 2 (.int .i64))],.one (.v (.int .i64))],outs:=[.ptr false 187 [.v (.int .i64),.own 27 false (.sl 1000002 (.int .i64))],.one (.v (.int .i64))] }
def Za5.enc (y:lsd (flats Za5.fn.outs)×lsd (ios Za5.fn.ins)):Int×(List (List Int))×Int:=(y.1.1,y.1.2.1,y.1.2.2.1)
noncomputable def Za5.f (l0_0:List (List Int)) (a1_0:Int) (l1_1:List Int) (a2:Int):Option (Int×(List (List Int))×Int):=denF Za5.E Za5.fn Za5.enc (l0_0,a1_0,l1_1,a2,())
noncomputable def Za5.l0 (x2:Int) (x8:Int) (x26:Int) (x27:Int) (b0_0:List (List Int)) (b1_0:Int) (b1_1:List Int) (b2_0:Int) (r3:List (List Int)):Option (Int×(List (List Int))×Int):=denAt Za5.E Za5.fn Za5.enc [1,1,1,1,0,1,0] { fr:=[(2,.lf (.int .i64 x2)),(3,.lf (.box 0 0)),(4,.lf (.box 1 0)),(8,.lf (.int .i64 x8)),(10,.lf (.box 2 0)),(26,.lf (.int .i64 x26)),(27,.lf (.int .i64 x27))],ob:=[(0,.box 26 false [.sl (.sl 2 (.int .i64)) b0_0]),(1,.box 29 false [.int .i64 b1_0,.sl (.int .i64) b1_1]),(2,.box 187 false [.int .i64 b2_0,.own 3]),(3,.row 27 false (.sl 1000002 (.int .i64)) r3)],nx:=4 }
theorem Za5.f_eq (l0_0:List (List Int)) (a1_0:Int) (l1_1:List Int) (a2:Int):Za5.f l0_0 a1_0 l1_1 a2=(ZbG.f l0_0 (wrapI (a2+1))).bind fun t16=>(ZbG.f l0_0 a2).bind fun t19=>(Zbv.f a1_0 (wrapI (t16+t19))).bind fun t25=>Za5.l0 a2 t16 t19 0 l0_0 a1_0 l1_1 t25.1 t25.2:=by kernel_rfl
theorem Za5.l0_eq (x2:Int) (x8:Int) (x26:Int) (x27:Int) (b0_0:List (List Int)) (b1_0:Int) (b1_1:List Int) (b2_0:Int) (r3:List (List Int)):Za5.l0 x2 x8 x26 x27 b0_0 b1_0 b1_1 b2_0 r3=if x27 < x26 then((ZbO.f b0_0 x2).bind fun t32=>if 0≤x27 then(if x27 < (t32.2.length:Int)then(if 0≤x27 then(if x27 < (t32.2.length:Int)then((Zbh.f b0_0 b1_0 b1_1 t32.1 (t32.2.set (x27:Int).toNat 1)).bind fun t41=>(ZA.f ([t41.2,t32.2.set (x27:Int).toNat 1]:List (List Int))).bind fun t46=>(ZS.f b2_0 r3 t46).bind fun t47=>Za5.l0 x2 x8 x26 (wrapI (x27+1)) b0_0 b1_0 b1_1 t47.1 t47.2)else none)else none)else none)else none)else(some (b2_0,r3,x8)):=(Zv _ _ _ _).trans (by kernel_rfl)
noncomputable def Za5.con:Con:=⟨Za5.fn.ins,Za5.fn.outs,Int×(List (List Int))×Int,fun x=>Za5.f x.1 x.2.1 x.2.2.1 x.2.2.2.1,fun r=>((r.1,r.2.1,r.2.2,()),(()))⟩
theorem Za5.valid:Valid Tryz.prog 223 Za5.con:=fnV Za5.fn Za5.E Za5.enc ⟨ttOk,(Zs ZbG.valid (Zs Zbv.valid (Zs ZbO.valid (Zs Zbh.valid (Zs ZA.valid (Zs ZS.valid Zaq))))))⟩ Tryz.func223
end Go.Proofs.YthmcpmnhdbeahaaGreat.P
namespace Go.Proofs.YthmcpmnhdbeahaaGreat.P
open Go Go.RowKit Go.Proofs.YthmcpmnhdbeahaaGreat.D
noncomputable def ZaL.E:Env:={ tt:=TT,con:=[(227,Zbv.con)],frz:=[],rows:=[],live:=[(3,[0,1,5,6])],n:=55,pin:=1,nils:=[] }
noncomputable def ZaL.fn:D.Fn:={ body:=Tryz.f224.body.getD .skip,res:=Tryz.f224.results.toList,ins:=[.ptr false 187 [.v (.int .i64),.own 27 false (.sl 1000002 (.int .i64))],.one (.v (.int .i64))],outs:=[.ptr false 187 [.v (.int .i64),.own 27 false (.sl 1000002 (.int .i64))]] }
def ZaL.enc (y:lsd (flats ZaL.fn.outs)×lsd (ios ZaL.fn.ins)):Int×(List (List Int))×Int×(List (List Int)):=(y.1.1,y.1.2.1,y.2.1,y.2.2.1)
noncomputable def ZaL.f (a0_0:Int) (l0_1:List (List Int)) (a1:Int):Option (Int×(List (List Int))×Int×(List (List Int))):=denF ZaL.E ZaL.fn ZaL.enc (a0_0,l0_1,a1,())
noncomputable def ZaL.l0 (x1:Int) (x6:Int) (b0_0:Int) (r1:List (List Int)) (b2_0:Int) (r3:List (List Int)):Option (Int×(List (List Int))×Int×(List (List Int))):=denAt ZaL.E ZaL.fn ZaL.enc [1,1,0,1,0] { fr:=[(0,.lf (.box 0 0)),(1,.lf (.int .i64 x1)),(5,.lf (.box 2 0)),(6,.lf (.int .i64 x6))],ob:=[(0,.box 187 false [.int .i64 b0_0,.own 1]),(1,.row 27 false (.sl 1000002 (.int .i64)) r1),(2,.box 187 false [.int .i64 b2_0,.own 3]),(3,.row 27 false (.sl 1000002 (.int .i64)) r3)],nx:=4 }
theorem ZaL.f_eq (a0_0:Int) (l0_1:List (List Int)) (a1:Int):ZaL.f a0_0 l0_1 a1=(Zbv.f a0_0 (wrapI ((l0_1.length:Int) - a1))).bind fun t18=>ZaL.l0 a1 a1 a0_0 l0_1 t18.1 t18.2:=by kernel_rfl
theorem ZaL.l0_eq (x1:Int) (x6:Int) (b0_0:Int) (r1:List (List Int)) (b2_0:Int) (r3:List (List Int)):ZaL.l0 x1 x6 b0_0 r1 b2_0 r3=if x6 < (r1.length:Int)then(if 0≤x6 then(if x6 < (r1.length:Int)then(if 0≤x6 then(if x6 < (r1.length:Int)then(if(row r1 x6).length=0 then(ZaL.l0 x1 (wrapI (x6+1)) b0_0 r1 b2_0 r3)else(if 0 < (row r1 x6).length then(if 0≤x6 then(if x6 < (r1.length:Int)then(if 0≤x6 then(if x6 < (r1.length:Int)then(if(row r1 x6).length=0 then none else(if 0≤x1 then(if x1≤((row r1 x6).length:Int)then(if 0≤wrapI (x6 - x1)then(if wrapI (x6 - x1) < (r3.length:Int)then(if 0≤wrapI (x6 - x1)then(if wrapI (x6 - x1) < (r3.length:Int)then(if 0 < ((row r1 x6).drop (x1:Int).toNat).length then(ZaL.l0 x1 (wrapI (x6+1)) b0_0 r1 b2_0 (r3.set (wrapI (x6 - x1):Int).toNat ((row r1 x6).drop (x1:Int).toNat)))else none)else none)else none)else none)else none)else none)else none))else none)else none)else none)else none)else none))else none)else none)else none)else none)else(some (b2_0,r3,b0_0,r1)):=(Zv _ _ _ _).trans (by kernel_rfl)
noncomputable def ZaL.con:Con:=⟨ZaL.fn.ins,ZaL.fn.outs,Int×(List (List Int))×Int×(List (List Int)),fun x=>ZaL.f x.1 x.2.1 x.2.2.1,fun r=>((r.1,r.2.1,()),(r.2.2.1,r.2.2.2,()))⟩
theorem ZaL.valid:Valid Tryz.prog 224 ZaL.con:=fnV ZaL.fn ZaL.E ZaL.enc ⟨ttOk,(Zs Zbv.valid Zaq)⟩ Tryz.func224
end Go.Proofs.YthmcpmnhdbeahaaGreat.P
namespace Go.Proofs.YthmcpmnhdbeahaaGreat.P
open Go Go.RowKit Go.Proofs.YthmcpmnhdbeahaaGreat.D
noncomputable def Zbu.E:Env:={ tt:=TT,con:=[(223,Za5.con),(224,ZaL.con)],frz:=[],rows:=[],live:=[],n:=19,pin:=0,nils:=[] }
noncomputable def Zbu.fn:D.Fn:={ body:=Tryz.f166.body.getD .skip,res:=Tryz.f166.results.toList,ins:=[.agg [.v (.sl 27 (.sl 2 (.int .i64)))],.agg [.v (.int .i64),.v (.sl 2 (.int .i64))],.one (.v (.int .i64))],outs:=[.ptr false 187 [.v (.int .i64),.own 27 false (.sl 1000002 (.int .i64))]] }
def Zbu.enc (y:lsd (flats Zbu.fn.outs)×lsd (ios Zbu.fn.ins)):Int×(List (List Int)):=(y.1.1,y.1.2.1)
noncomputable def Zbu.f (l0_0:List (List Int)) (a1_0:Int) (l1_1:List Int) (a2:Int):Option (Int×(List (List Int))):=denF Zbu.E Zbu.fn Zbu.enc (l0_0,a1_0,l1_1,a2,())
theorem Zbu.f_eq (l0_0:List (List Int)) (a1_0:Int) (l1_1:List Int) (a2:Int):Zbu.f l0_0 a1_0 l1_1 a2=(Za5.f l0_0 a1_0 l1_1 a2).bind fun t13=>(ZaL.f t13.1 t13.2.1 t13.2.2).bind fun t18=>some (t18.1,t18.2.1):=by kernel_rfl
noncomputable def Zbu.con:Con:=⟨Zbu.fn.ins,Zbu.fn.outs,Int×(List (List Int)),fun x=>Zbu.f x.1 x.2.1 x.2.2.1 x.2.2.2.1,fun r=>((r.1,r.2,()),(()))⟩
theorem Zbu.valid:Valid Tryz.prog 166 Zbu.con:=fnV Zbu.fn Zbu.E Zbu.enc ⟨ttOk,(Zs Za5.valid (Zs ZaL.valid Zaq))⟩ Tryz.func166
end Go.Proofs.YthmcpmnhdbeahaaGreat.P
namespace Go.Proofs.YthmcpmnhdbeahaaGreat.P
open Go Go.RowKit Go.Proofs.YthmcpmnhdbeahaaGreat.D
noncomputable def ZO.E:Env:={ tt:=TT,con:=[(179,ZC.con),(178,Zy.con),(247,ZG.con)],frz:=[30],rows:=[],live:=[(3,[0,3,20,21,22]),(8,[0,4,5,6,20,21,22,30,31,32]),(11,[0,4,5,6,8,20,21,22,30,31,32,44,45])],n:=63,pin:=1,nils:=[] }
noncomputable def ZO.fn:D.Fn:={ body:=Tryz.f182.body.getD .skip,res:=Tryz.f182.results.toList,ins:=[.ptr false 187 [.v (.int .i64),.own 27 false (.sl 1000002 (.int .i64))]],outs:=[.one (.own 27 true (.sl 2 (.int .i64)))] }
def ZO.enc (y:lsd (flats ZO.fn.outs)×lsd (ios ZO.fn.ins)):(List (List Int))×Int×(List (List Int)):=(y.1.1,y.2.1,y.2.2.1)
noncomputable def ZO.f (a0_0:Int) (l0_1:List (List Int)):Option ((List (List Int))×Int×(List (List Int))):=denF ZO.E ZO.fn ZO.enc (a0_0,l0_1,())
noncomputable def ZO.l0 (x21:Int) (x22:Int) (b0_0:Int) (r1:List (List Int)) (r2:List (List Int)):Option ((List (List Int))×Int×(List (List Int))):=denAt ZO.E ZO.fn ZO.enc [1,1,0,1,0] { fr:=[(0,.lf (.box 0 0)),(3,.lf (.own 2)),(20,.lf (.own 1)),(21,.lf (.int .i64 x21)),(22,.lf (.int .i64 x22))],ob:=[(0,.box 187 false [.int .i64 b0_0,.own 1]),(1,.row 27 false (.sl 1000002 (.int .i64)) r1),(2,.row 27 true (.sl 2 (.int .i64)) r2)],nx:=3 }
noncomputable def ZO.l1 (x4:Int) (x5:List Int) (x21:Int) (x22:Int) (x30:List (List Int)) (x31:Int) (x32:Int) (b0_0:Int) (r1:List (List Int)) (r2:List (List Int)):Option ((List (List Int))×Int×(List (List Int))):=denAt ZO.E ZO.fn ZO.enc [1,1,0,1,0,0,1,1,0,0,1,1,1,0,1,0] { fr:=[(0,.lf (.box 0 0)),(4,.lf (.int .i64 x4)),(5,.lf (.sl (.int .i64) x5)),(6,.lf (.own 2)),(20,.lf (.own 1)),(21,.lf (.int .i64 x21)),(22,.lf (.int .i64 x22)),(30,.lf (.sl (.sl 2 (.int .i64)) x30)),(31,.lf (.int .i64 x31)),(32,.lf (.int .i64 x32))],ob:=[(0,.box 187 false [.int .i64 b0_0,.own 1]),(1,.row 27 false (.sl 1000002 (.int .i64)) r1),(2,.row 27 true (.sl 2 (.int .i64)) r2)],nx:=3 }
noncomputable def ZO.l2 (x4:Int) (x5:List Int) (x8:List Int) (x21:Int) (x22:Int) (x30:List (List Int)) (x31:Int) (x32:Int) (x44:Int) (x45:Int) (b0_0:Int) (r1:List (List Int)) (r2:List (List Int)):Option ((List (List Int))×Int×(List (List Int))):=denAt ZO.E ZO.fn ZO.enc [1,1,0,1,0,0,1,1,0,0,1,1,1,0,1,0,0,1,1,0,0,1,1,0] { fr:=[(0,.lf (.box 0 0)),(4,.lf (.int .i64 x4)),(5,.lf (.sl (.int .i64) x5)),(6,.lf (.own 2)),(8,.lf (.sl (.int .i64) x8)),(20,.lf (.own 1)),(21,.lf (.int .i64 x21)),(22,.lf (.int .i64 x22)),(30,.lf (.sl (.sl 2 (.int .i64)) x30)),(31,.lf (.int .i64 x31)),(32,.lf (.int .i64 x32)),(44,.lf (.int .i64 x44)),(45,.lf (.int .i64 x45))],ob:=[(0,.box 187 false [.int .i64 b0_0,.own 1]),(1,.row 27 false (.sl 1000002 (.int .i64)) r1),(2,.row 27 true (.sl 2 (.int .i64)) r2)],nx:=3 }
theorem ZO.f_eq (a0_0:Int) (l0_1:List (List Int)):ZO.f a0_0 l0_1=if(l0_1.length:Int)=(l0_1.length:Int)then(if 0≤(l0_1.length:Int)then(if((l0_1.length:Int):Int).toNat≤17592186044416 then(ZO.l0 (l0_1.length:Int) 0 a0_0 l0_1 ([List.replicate ((l0_1.length:Int):Int).toNat (0:Int)]:List (List Int)))else none)else none)else none:=by kernel_rfl
theorem ZO.l0_eq (x21:Int) (x22:Int) (b0_0:Int) (r1:List (List Int)) (r2:List (List Int)):ZO.l0 x21 x22 b0_0 r1 r2=if x22 < x21 then(if 0≤x22 then(if x22 < (r1.length:Int)then(if 0≤x22 then(if x22 < (r1.length:Int)then(if(row r1 x22).length=0 then(ZO.l0 x21 (wrapI (x22+1)) b0_0 r1 r2)else(if 0 < (row r1 x22).length then(ZO.l1 x22 (row r1 x22) x21 x22 r2 (r2.length:Int) 0 b0_0 r1 ([]:List (List Int)))else none))else none)else none)else none)else none)else((ZC.f r2 (fun z0 z1=>(Zy.f z0 z1).map fun z=>z)).bind fun t61=>some (t61,b0_0,r1)):=(Zv _ _ _ _).trans (by kernel_rfl)
theorem ZO.l1_eq (x4:Int) (x5:List Int) (x21:Int) (x22:Int) (x30:List (List Int)) (x31:Int) (x32:Int) (b0_0:Int) (r1:List (List Int)) (r2:List (List Int)):ZO.l1 x4 x5 x21 x22 x30 x31 x32 b0_0 r1 r2=if x32 < x31 then(if 0≤x32 then(if x32 < (x30.length:Int)then(if 0≤x4 then(if x4 < (x5.length:Int)then(if(rd x5 x4)=0 then none else(ZO.l2 x4 x5 (row x30 x32) x21 x22 x30 x31 x32 (wrapI ((b0_0:Int).tdiv (rd x5 x4))) 0 b0_0 r1 r2))else none)else none)else none)else none)else(ZO.l0 x21 (wrapI (x22+1)) b0_0 r1 r2):=(Zv _ _ _ _).trans (by kernel_rfl)
theorem ZO.l2_eq (x4:Int) (x5:List Int) (x8:List Int) (x21:Int) (x22:Int) (x30:List (List Int)) (x31:Int) (x32:Int) (x44:Int) (x45:Int) (b0_0:Int) (r1:List (List Int)) (r2:List (List Int)):ZO.l2 x4 x5 x8 x21 x22 x30 x31 x32 x44 x45 b0_0 r1 r2=if x45 < x44 then((ZG.f b0_0 r1 1 x8 x45 x5).bind fun t53=>if r2.length+([t53]:List (List Int)).length≤5864062014805 then(ZO.l2 x4 x5 x8 x21 x22 x30 x31 x32 x44 (wrapI (x45+1)) b0_0 r1 (r2++([t53]:List (List Int))))else none)else(ZO.l1 x4 x5 x21 x22 x30 x31 (wrapI (x32+1)) b0_0 r1 r2):=(Zv _ _ _ _).trans (by kernel_rfl)
noncomputable def ZO.con:Con:=⟨ZO.fn.ins,ZO.fn.outs,(List (List Int))×Int×(List (List Int)),fun x=>ZO.f x.1 x.2.1,fun r=>((r.1,()),(r.2.1,r.2.2,()))⟩
theorem ZO.valid:Valid Tryz.prog 182 ZO.con:=fnV ZO.fn ZO.E ZO.enc ⟨ttOk,(Zs ZC.valid (Zs Zy.valid (Zs ZG.valid Zaq)))⟩ Tryz.func182
end Go.Proofs.YthmcpmnhdbeahaaGreat.P
namespace Go.Proofs.YthmcpmnhdbeahaaGreat.P
open Go Go.RowKit Go.Proofs.YthmcpmnhdbeahaaGreat.D
noncomputable def Z9.E:Env:={ tt:=TT,con:=[(166,Zbu.con),(182,ZO.con),(137,ZA.con)],frz:=[12,19],rows:=[21],live:=[(3,[5,12,13,14])],n:=27,pin:=0,nils:=[] }
noncomputable def Z9.fn:D.Fn:={ body:=Tryz.f108.body.getD .skip,res:=Tryz.f108.results.toList,ins:=[.agg [.v (.sl 27 (.sl 2 (.int .i64)))],.agg [.v (.int .i64),.v (.sl 2 (.int .i64))]],outs:=[.one (.own 27 true (.sl 2 (.int .i64)))] }
def Z9.enc (y:lsd (flats Z9.fn.outs)×lsd (ios Z9.fn.ins)):(List (List Int)):=y.1.1
noncomputable def Z9.f (l0_0:List (List Int)) (a1_0:Int) (l1_1:List Int):Option (List (List Int)):=denF Z9.E Z9.fn Z9.enc (l0_0,a1_0,l1_1,())
noncomputable def Z9.l0 (x12:List (List Int)) (x13:Int) (x14:Int) (r0:List (List Int)):Option (List (List Int)):=denAt Z9.E Z9.fn Z9.enc [1,1,0,1,0] { fr:=[(5,.lf (.own 0)),(12,.lf (.sl (.sl 2 (.int .i64)) x12)),(13,.lf (.int .i64 x13)),(14,.lf (.int .i64 x14))],ob:=[(0,.row 27 true (.sl 2 (.int .i64)) r0)],nx:=1 }
theorem Z9.f_eq (l0_0:List (List Int)) (a1_0:Int) (l1_1:List Int):Z9.f l0_0 a1_0 l1_1=(Zbu.f l0_0 a1_0 l1_1 1).bind fun t11=>(ZO.f t11.1 t11.2).bind fun t12=>Z9.l0 t12.1 (t12.1.length:Int) 0 ([]:List (List Int)):=by kernel_rfl
theorem Z9.l0_eq (x12:List (List Int)) (x13:Int) (x14:Int) (r0:List (List Int)):Z9.l0 x12 x13 x14 r0=if x14 < x13 then(if 0≤x14 then(if x14 < (x12.length:Int)then((ZA.f ([([0]:List Int),row x12 x14]:List (List Int))).bind fun t22=>if r0.length+([t22]:List (List Int)).length≤5864062014805 then(Z9.l0 x12 x13 (wrapI (x14+1)) (r0++([t22]:List (List Int))))else none)else none)else none)else(some r0):=(Zv _ _ _ _).trans (by kernel_rfl)
noncomputable def Z9.con:Con:=⟨Z9.fn.ins,Z9.fn.outs,(List (List Int)),fun x=>Z9.f x.1 x.2.1 x.2.2.1,fun r=>((r,()),(()))⟩
theorem Z9.valid:Valid Tryz.prog 108 Z9.con:=fnV Z9.fn Z9.E Z9.enc ⟨ttOk,(Zs Zbu.valid (Zs ZO.valid (Zs ZA.valid Zaq)))⟩ Tryz.func108
end Go.Proofs.YthmcpmnhdbeahaaGreat.P
namespace Go.Proofs.YthmcpmnhdbeahaaGreat.P
open Go Go.RowKit Go.Proofs.YthmcpmnhdbeahaaGreat.D
noncomputable def ZaM.E:Env:={ tt:=TT,con:=[(107,Zau.con),(108,Z9.con)],frz:=[],rows:=[9],live:=[],n:=17,pin:=0,nils:=[] }
noncomputable def ZaM.fn:D.Fn:={ body:=Tryz.f28.body.getD .skip,res:=Tryz.f28.results.toList,ins:=[.agg [.v (.sl 27 (.sl 2 (.int .i64)))],.agg [.v (.int .i64),.v (.sl 2 (.int .i64))]],outs:=[.one (.own 27 true (.sl 2 (.int .i64))),.one (.v (.int .i64))] }
def ZaM.enc (y:lsd (flats ZaM.fn.outs)×lsd (ios ZaM.fn.ins)):(List (List Int))×Int:=(y.1.1,y.1.2.1)
noncomputable def ZaM.f (l0_0:List (List Int)) (a1_0:Int) (l1_1:List Int):Option ((List (List Int))×Int):=denF ZaM.E ZaM.fn ZaM.enc (l0_0,a1_0,l1_1,())
theorem ZaM.f_eq (l0_0:List (List Int)) (a1_0:Int) (l1_1:List Int):ZaM.f l0_0 a1_0 l1_1=(Zau.f l0_0 ([(a1_0,l1_1)]:List (Int×(List Int)))).bind fun t10=>if t10=0 then((Z9.f l0_0 a1_0 l1_1).bind fun t16=>some (t16,0))else(some (([]:List (List Int)),t10)):=by kernel_rfl
noncomputable def ZaM.con:Con:=⟨ZaM.fn.ins,ZaM.fn.outs,(List (List Int))×Int,fun x=>ZaM.f x.1 x.2.1 x.2.2.1,fun r=>((r.1,r.2,()),(()))⟩
theorem ZaM.valid:Valid Tryz.prog 28 ZaM.con:=fnV ZaM.fn ZaM.E ZaM.enc ⟨ttOk,(Zs Zau.valid (Zs Z9.valid Zaq))⟩ Tryz.func28
end Go.Proofs.YthmcpmnhdbeahaaGreat.P
namespace Go.Proofs.YthmcpmnhdbeahaaGreat.P
open Go Go.RowKit Go.Proofs.YthmcpmnhdbeahaaGreat.D
noncomputable def Zbx.E:Env:={ tt:=TT,con:=[],frz:=[],rows:=[],live:=[],n:=15,pin:=0,nils:=[] }
noncomputable def Zbx.fn:D.Fn:={ body:=Tryz.f103.body.getD .skip,res:=Tryz.f103.results.toList,ins:=[.one (.v (.int .i64)),.one (.v (.int .i64)),.one (.v (.int .i64))],outs:=[.one (.v .bool)] }
def Zbx.enc (y:lsd (flats Zbx.fn.outs)×lsd (ios Zbx.fn.ins)):Bool:=y.1.1
noncomputable def Zbx.f (a0:Int) (a1:Int) (a2:Int):Option Bool:=denF Zbx.E Zbx.fn Zbx.enc (a0,a1,a2,())
theorem Zbx.f_eq (a0:Int) (a1:Int) (a2:Int):Zbx.f a0 a1 a2=if a0≥a1 then(some (decide (a0≤a2)))else(some false):=by kernel_rfl
noncomputable def Zbx.con:Con:=⟨Zbx.fn.ins,Zbx.fn.outs,Bool,fun x=>Zbx.f x.1 x.2.1 x.2.2.1,fun r=>((r,()),(()))⟩
theorem Zbx.valid:Valid Tryz.prog 103 Zbx.con:=fnV Zbx.fn Zbx.E Zbx.enc ⟨ttOk,Zaq⟩ Tryz.func103
end Go.Proofs.YthmcpmnhdbeahaaGreat.P
namespace Go.Proofs.YthmcpmnhdbeahaaGreat.P
open Go Go.RowKit Go.Proofs.YthmcpmnhdbeahaaGreat.D
noncomputable def ZD.E:Env:={ tt:=TT,con:=[(103,Zbx.con)],frz:=[],rows:=[],live:=[(5,[1,3,4]),(10,[1,3,4,5]),(15,[1,3,6]),(21,[1,3,6,7,8]),(25,[1,3,6,7,8,9])],n:=137,pin:=0,nils:=[7] }
noncomputable def ZD.fn:D.Fn:={ body:=Tryz.f109.body.getD .skip,res:=Tryz.f109.results.toList,ins:=[.agg [.v (.sl 27 (.sl 2 (.int .i64)))]],outs:=[.one (.v .bool)] }
def ZD.enc (y:lsd (flats ZD.fn.outs)×lsd (ios ZD.fn.ins)):Bool:=y.1.1
noncomputable def ZD.f (l0_0:List (List Int)):Option Bool:=denF ZD.E ZD.fn ZD.enc (l0_0,())
noncomputable def ZD.l0 (x3:Int) (x4:Int) (b0_0:List (List Int)):Option Bool:=denAt ZD.E ZD.fn ZD.enc [1,1,1,0,1,0] { fr:=[(1,.lf (.box 0 0)),(3,.lf (.int .i64 x3)),(4,.lf (.int .i64 x4))],ob:=[(0,.box 26 false [.sl (.sl 2 (.int .i64)) b0_0])],nx:=1 }
noncomputable def ZD.l1 (x3:Int) (x4:Int) (x5:Int) (b0_0:List (List Int)):Option Bool:=denAt ZD.E ZD.fn ZD.enc [1,1,1,0,1,0,0,1,0,0,1,1,0] { fr:=[(1,.lf (.box 0 0)),(3,.lf (.int .i64 x3)),(4,.lf (.int .i64 x4)),(5,.lf (.int .i64 x5))],ob:=[(0,.box 26 false [.sl (.sl 2 (.int .i64)) b0_0])],nx:=1 }
noncomputable def ZD.l2 (x3:Int) (x6:Int) (b0_0:List (List Int)):Option Bool:=denAt ZD.E ZD.fn ZD.enc [1,1,1,1,0,1,0] { fr:=[(1,.lf (.box 0 0)),(3,.lf (.int .i64 x3)),(6,.lf (.int .i64 x6))],ob:=[(0,.box 26 false [.sl (.sl 2 (.int .i64)) b0_0])],nx:=1 }
noncomputable def ZD.l3 (x3:Int) (x6:Int) (x7:Bool) (x8:Int) (b0_0:List (List Int)):Option Bool:=denAt ZD.E ZD.fn ZD.enc [1,1,1,1,0,1,0,0,1,0,0,1,1,0,1,0] { fr:=[(1,.lf (.box 0 0)),(3,.lf (.int .i64 x3)),(6,.lf (.int .i64 x6)),(7,.lf (Zd9 x7)),(8,.lf (.int .i64 x8))],ob:=[(0,.box 26 false [.sl (.sl 2 (.int .i64)) b0_0])],nx:=1 }
noncomputable def ZD.l4 (x3:Int) (x6:Int) (x7:Bool) (x8:Int) (x9:Int) (b0_0:List (List Int)):Option Bool:=denAt ZD.E ZD.fn ZD.enc [1,1,1,1,0,1,0,0,1,0,0,1,1,0,1,0,0,1,0,0,1,1,0] { fr:=[(1,.lf (.box 0 0)),(3,.lf (.int .i64 x3)),(6,.lf (.int .i64 x6)),(7,.lf (Zd9 x7)),(8,.lf (.int .i64 x8)),(9,.lf (.int .i64 x9))],ob:=[(0,.box 26 false [.sl (.sl 2 (.int .i64)) b0_0])],nx:=1 }
theorem ZD.f_eq (l0_0:List (List Int)):ZD.f l0_0=(Zbx.f (l0_0.length:Int) 1 8).bind fun t14=>if t14=true then(ZD.l0 (l0_0.length:Int) 0 l0_0)else(some false):=by kernel_rfl
theorem ZD.l0_eq (x3:Int) (x4:Int) (b0_0:List (List Int)):ZD.l0 x3 x4 b0_0=if x4 < x3 then(if 0≤x4 then(if x4 < (b0_0.length:Int)then(if((row b0_0 x4).length:Int)=x3 then(ZD.l1 x3 x4 0 b0_0)else(some false))else none)else none)else(ZD.l2 x3 0 b0_0):=(Zv _ _ _ _).trans (by kernel_rfl)
theorem ZD.l1_eq (x3:Int) (x4:Int) (x5:Int) (b0_0:List (List Int)):ZD.l1 x3 x4 x5 b0_0=if x5 < x3 then(if 0≤x4 then(if x4 < (b0_0.length:Int)then(if 0≤x5 then(if x5 < ((row b0_0 x4).length:Int)then((Zbx.f (T b0_0 x4 x5) 0 (wrapI (x3 - 1))).bind fun t44=>if t44=true then(ZD.l1 x3 x4 (wrapI (x5+1)) b0_0)else(some false))else none)else none)else none)else none)else(ZD.l0 x3 (wrapI (x4+1)) b0_0):=(Zv _ _ _ _).trans (by kernel_rfl)
theorem ZD.l2_eq (x3:Int) (x6:Int) (b0_0:List (List Int)):ZD.l2 x3 x6 b0_0=if x6 < x3 then(if 0 < (b0_0.length:Int)then(if 0≤x6 then(if x6 < ((row b0_0 0).length:Int)then(if(T b0_0 0 x6)=x6 then(if 0≤x6 then(if x6 < (b0_0.length:Int)then(if 0 < ((row b0_0 x6).length:Int)then(if(T b0_0 x6 0)=x6 then(ZD.l3 x3 x6 false 0 b0_0)else(some false))else none)else none)else none)else(some false))else none)else none)else none)else(some true):=(Zv _ _ _ _).trans (by kernel_rfl)
theorem ZD.l3_eq (x3:Int) (x6:Int) (x7:Bool) (x8:Int) (b0_0:List (List Int)):ZD.l3 x3 x6 x7 x8 b0_0=if x8 < x3 then(if x7=true then(ZD.l4 x3 x6 true x8 0 b0_0)else(if 0≤x6 then(if x6 < (b0_0.length:Int)then(if 0≤x8 then(if x8 < ((row b0_0 x6).length:Int)then(if(T b0_0 x6 x8)=0 then(if 0≤x8 then(if x8 < (b0_0.length:Int)then(if 0≤x6 then(if x6 < ((row b0_0 x8).length:Int)then(ZD.l4 x3 x6 (decide ((T b0_0 x8 x6)=0)) x8 0 b0_0)else none)else none)else none)else none)else(ZD.l4 x3 x6 false x8 0 b0_0))else none)else none)else none)else none))else(if x7=true then(ZD.l2 x3 (wrapI (x6+1)) b0_0)else(some false)):=(Zv _ _ _ _).trans (by kernel_rfl)
theorem ZD.l4_eq (x3:Int) (x6:Int) (x7:Bool) (x8:Int) (x9:Int) (b0_0:List (List Int)):ZD.l4 x3 x6 x7 x8 x9 b0_0=if x9 < x3 then(if 0≤x6 then(if x6 < (b0_0.length:Int)then(if 0≤x8 then(if x8 < ((row b0_0 x6).length:Int)then(if 0≤T b0_0 x6 x8 then(if T b0_0 x6 x8 < (b0_0.length:Int)then(if 0≤x9 then(if x9 < ((row b0_0 (T b0_0 x6 x8)).length:Int)then(if 0≤x6 then(if x6 < (b0_0.length:Int)then(if 0≤x8 then(if x8 < (b0_0.length:Int)then(if 0≤x9 then(if x9 < ((row b0_0 x8).length:Int)then(if 0≤T b0_0 x8 x9 then(if T b0_0 x8 x9 < ((row b0_0 x6).length:Int)then(if(T b0_0 (T b0_0 x6 x8) x9)=(T b0_0 x6 (T b0_0 x8 x9))then(ZD.l4 x3 x6 x7 x8 (wrapI (x9+1)) b0_0)else(some false))else none)else none)else none)else none)else none)else none)else none)else none)else none)else none)else none)else none)else none)else none)else none)else none)else(ZD.l3 x3 x6 x7 (wrapI (x8+1)) b0_0):=(Zv _ _ _ _).trans (by kernel_rfl)
noncomputable def ZD.con:Con:=⟨ZD.fn.ins,ZD.fn.outs,Bool,fun x=>ZD.f x.1,fun r=>((r,()),(()))⟩
theorem ZD.valid:Valid Tryz.prog 109 ZD.con:=fnV ZD.fn ZD.E ZD.enc ⟨ttOk,(Zs Zbx.valid Zaq)⟩ Tryz.func109
end Go.Proofs.YthmcpmnhdbeahaaGreat.P
namespace Go.Proofs.YthmcpmnhdbeahaaGreat.P
open Go Go.RowKit Go.Proofs.YthmcpmnhdbeahaaGreat.D
noncomputable def Zaf.E:Env:={ tt:=TT,con:=[(103,Zbx.con),(183,Zbe.con)],frz:=[],rows:=[],live:=[(4,[2,3,5]),(9,[2,3,6]),(12,[2,3,6,7])],n:=90,pin:=0,nils:=[] }
noncomputable def Zaf.fn:D.Fn:={ body:=Tryz.f110.body.getD .skip,res:=Tryz.f110.results.toList,ins:=[.agg [.v (.sl 27 (.sl 2 (.int .i64)))],.agg [.v (.int .i64),.v (.sl 2 (.int .i64))]],outs:=[.one (.v .bool)] }
def Zaf.enc (y:lsd (flats Zaf.fn.outs)×lsd (ios Zaf.fn.ins)):Bool:=y.1.1
noncomputable def Zaf.f (l0_0:List (List Int)) (a1_0:Int) (l1_1:List Int):Option Bool:=denF Zaf.E Zaf.fn Zaf.enc (l0_0,a1_0,l1_1,())
noncomputable def Zaf.l0 (x5:Int) (b0_0:List (List Int)) (b1_0:Int) (b1_1:List Int):Option Bool:=denAt Zaf.E Zaf.fn Zaf.enc [1,1,0,1,0] { fr:=[(2,.lf (.box 0 0)),(3,.lf (.box 1 0)),(5,.lf (.int .i64 x5))],ob:=[(0,.box 26 false [.sl (.sl 2 (.int .i64)) b0_0]),(1,.box 29 false [.int .i64 b1_0,.sl (.int .i64) b1_1])],nx:=2 }
noncomputable def Zaf.l1 (x6:Int) (b0_0:List (List Int)) (b1_0:Int) (b1_1:List Int):Option Bool:=denAt Zaf.E Zaf.fn Zaf.enc [1,1,1,0,1,0] { fr:=[(2,.lf (.box 0 0)),(3,.lf (.box 1 0)),(6,.lf (.int .i64 x6))],ob:=[(0,.box 26 false [.sl (.sl 2 (.int .i64)) b0_0]),(1,.box 29 false [.int .i64 b1_0,.sl (.int .i64) b1_1])],nx:=2 }
noncomputable def Zaf.l2 (x6:Int) (x7:Int) (b0_0:List (List Int)) (b1_0:Int) (b1_1:List Int):Option Bool:=denAt Zaf.E Zaf.fn Zaf.enc [1,1,1,0,1,0,0,1,0,0,1,0] { fr:=[(2,.lf (.box 0 0)),(3,.lf (.box 1 0)),(6,.lf (.int .i64 x6)),(7,.lf (.int .i64 x7))],ob:=[(0,.box 26 false [.sl (.sl 2 (.int .i64)) b0_0]),(1,.box 29 false [.int .i64 b1_0,.sl (.int .i64) b1_1])],nx:=2 }
theorem Zaf.f_eq (l0_0:List (List Int)) (a1_0:Int) (l1_1:List Int):Zaf.f l0_0 a1_0 l1_1=(Zbx.f a1_0 2 12).bind fun t10=>if t10=true then(if(l1_1.length:Int)=(l0_0.length:Int)then(Zaf.l0 0 l0_0 a1_0 l1_1)else(some false))else(some false):=by kernel_rfl
theorem Zaf.l0_eq (x5:Int) (b0_0:List (List Int)) (b1_0:Int) (b1_1:List Int):Zaf.l0 x5 b0_0 b1_0 b1_1=if x5 < (b1_1.length:Int)then(if 0≤x5 then(if x5 < (b1_1.length:Int)then((Zbx.f (rd b1_1 x5) 1 (wrapI (b1_0 - 1))).bind fun t36=>if t36=true then(if 0≤x5 then(if x5 < (b1_1.length:Int)then((Zbe.f (rd b1_1 x5) b1_0).bind fun t46=>if t46=1 then(Zaf.l0 (wrapI (x5+1)) b0_0 b1_0 b1_1)else(some false))else none)else none)else(some false))else none)else none)else(Zaf.l1 0 b0_0 b1_0 b1_1):=(Zv _ _ _ _).trans (by kernel_rfl)
theorem Zaf.l1_eq (x6:Int) (b0_0:List (List Int)) (b1_0:Int) (b1_1:List Int):Zaf.l1 x6 b0_0 b1_0 b1_1=if x6 < (b1_1.length:Int)then(Zaf.l2 x6 0 b0_0 b1_0 b1_1)else(some true):=(Zv _ _ _ _).trans (by kernel_rfl)
theorem Zaf.l2_eq (x6:Int) (x7:Int) (b0_0:List (List Int)) (b1_0:Int) (b1_1:List Int):Zaf.l2 x6 x7 b0_0 b1_0 b1_1=if x7 < (b1_1.length:Int)then(if 0≤x6 then(if x6 < (b0_0.length:Int)then(if 0≤x7 then(if x7 < ((row b0_0 x6).length:Int)then(if 0≤T b0_0 x6 x7 then(if T b0_0 x6 x7 < (b1_1.length:Int)then(if 0≤x6 then(if x6 < (b1_1.length:Int)then(if 0≤x7 then(if x7 < (b1_1.length:Int)then(if b1_0=0 then none else(if(rd b1_1 (T b0_0 x6 x7))=((wrapI ((rd b1_1 x6)*(rd b1_1 x7)):Int).tmod b1_0)then(Zaf.l2 x6 (wrapI (x7+1)) b0_0 b1_0 b1_1)else(some false)))else none)else none)else none)else none)else none)else none)else none)else none)else none)else none)else(Zaf.l1 (wrapI (x6+1)) b0_0 b1_0 b1_1):=(Zv _ _ _ _).trans (by kernel_rfl)
noncomputable def Zaf.con:Con:=⟨Zaf.fn.ins,Zaf.fn.outs,Bool,fun x=>Zaf.f x.1 x.2.1 x.2.2.1,fun r=>((r,()),(()))⟩
theorem Zaf.valid:Valid Tryz.prog 110 Zaf.con:=fnV Zaf.fn Zaf.E Zaf.enc ⟨ttOk,(Zs Zbx.valid (Zs Zbe.valid Zaq))⟩ Tryz.func110
end Go.Proofs.YthmcpmnhdbeahaaGreat.P
namespace Go.Proofs.YthmcpmnhdbeahaaGreat.P
open Go Go.RowKit Go.Proofs.YthmcpmnhdbeahaaGreat.D
noncomputable def ZaT.E:Env:={ tt:=TT,con:=[(109,ZD.con),(110,Zaf.con),(111,Zn.con)],frz:=[17],rows:=[],live:=[],n:=19,pin:=0,nils:=[] }
noncomputable def ZaT.fn:D.Fn:={ body:=Tryz.f29.body.getD .skip,res:=Tryz.f29.results.toList,ins:=[.agg [.v (.sl 27 (.sl 2 (.int .i64)))],.agg [.v (.int .i64),.v (.sl 2 (.int .i64))]],outs:=[.one (.own 27 false (.sl 2 (.int .i64))),.one (.v (.int .i64))] }
def ZaT.enc (y:lsd (flats ZaT.fn.outs)×lsd (ios ZaT.fn.ins)):(List (List Int))×Int:=(y.1.1,y.1.2.1)
noncomputable def ZaT.f (l0_0:List (List Int)) (a1_0:Int) (l1_1:List Int):Option ((List (List Int))×Int):=denF ZaT.E ZaT.fn ZaT.enc (l0_0,a1_0,l1_1,())
theorem ZaT.f_eq (l0_0:List (List Int)) (a1_0:Int) (l1_1:List Int):ZaT.f l0_0 a1_0 l1_1=(ZD.f l0_0).bind fun t7=>if t7=true then((Zaf.f l0_0 a1_0 l1_1).bind fun t12=>if t12=true then((Zn.f fuel l0_0 a1_0 l1_1 ([]:List Int)).bind fun t18=>some (t18,0))else(some (([]:List (List Int)),1)))else(some (([]:List (List Int)),1)):=by kernel_rfl
noncomputable def ZaT.con:Con:=⟨ZaT.fn.ins,ZaT.fn.outs,(List (List Int))×Int,fun x=>ZaT.f x.1 x.2.1 x.2.2.1,fun r=>((r.1,r.2,()),(()))⟩
theorem ZaT.valid:Valid Tryz.prog 29 ZaT.con:=fnV ZaT.fn ZaT.E ZaT.enc ⟨ttOk,(Zs ZD.valid (Zs Zaf.valid (Zs Zn.valid Zaq)))⟩ Tryz.func29
end Go.Proofs.YthmcpmnhdbeahaaGreat.P
namespace Go.Proofs.YthmcpmnhdbeahaaGreat.P
open Go Go.RowKit Go.Proofs.YthmcpmnhdbeahaaGreat.D
noncomputable def Zam.E:Env:={ tt:=TT,con:=[(107,Zau.con),(98,ZN.con)],frz:=[],rows:=[9],live:=[],n:=16,pin:=0,nils:=[] }
noncomputable def Zam.fn:D.Fn:={ body:=Tryz.f30.body.getD .skip,res:=Tryz.f30.results.toList,ins:=[.agg [.v (.sl 27 (.sl 2 (.int .i64)))],.agg [.v (.int .i64),.v (.sl 2 (.int .i64))]],outs:=[.one (.own 27 true (.sl 2 (.int .i64))),.one (.v (.int .i64))] }
def Zam.enc (y:lsd (flats Zam.fn.outs)×lsd (ios Zam.fn.ins)):(List (List Int))×Int:=(y.1.1,y.1.2.1)
noncomputable def Zam.f (l0_0:List (List Int)) (a1_0:Int) (l1_1:List Int):Option ((List (List Int))×Int):=denF Zam.E Zam.fn Zam.enc (l0_0,a1_0,l1_1,())
theorem Zam.f_eq (l0_0:List (List Int)) (a1_0:Int) (l1_1:List Int):Zam.f l0_0 a1_0 l1_1=(Zau.f l0_0 ([(a1_0,l1_1)]:List (Int×(List Int)))).bind fun t10=>if t10=0 then((ZN.f a1_0 l1_1).bind fun t15=>some (t15,0))else(some (([]:List (List Int)),t10)):=by kernel_rfl
noncomputable def Zam.con:Con:=⟨Zam.fn.ins,Zam.fn.outs,(List (List Int))×Int,fun x=>Zam.f x.1 x.2.1 x.2.2.1,fun r=>((r.1,r.2,()),(()))⟩
theorem Zam.valid:Valid Tryz.prog 30 Zam.con:=fnV Zam.fn Zam.E Zam.enc ⟨ttOk,(Zs Zau.valid (Zs ZN.valid Zaq))⟩ Tryz.func30
end Go.Proofs.YthmcpmnhdbeahaaGreat.P
namespace Go.Proofs.YthmcpmnhdbeahaaGreat.P
open Go Go.RowKit Go.Proofs.YthmcpmnhdbeahaaGreat.D
noncomputable def Z5.E:Env:={ tt:=TT,con:=[(91,Zao.con),(104,Za6.con)],frz:=[],rows:=[],live:=[(3,[2,3,4,7,8])],n:=32,pin:=0,nils:=[] }
noncomputable def Z5.fn:D.Fn:={ body:=Tryz.f129.body.getD .skip,res:=Tryz.f129.results.toList,ins:=[.agg [.v (.sl 27 (.sl 2 (.int .i64)))],.agg [.v (.int .i64),.v (.sl 2 (.int .i64))],.one (.v (.int .i64))],outs:=[.one (.own 2 true (.int .i64))] }
def Z5.enc (y:lsd (flats Z5.fn.outs)×lsd (ios Z5.fn.ins)):(List Int):=y.1.1
noncomputable def Z5.f (l0_0:List (List Int)) (a1_0:Int) (l1_1:List Int) (a2:Int):Option (List Int):=denF Z5.E Z5.fn Z5.enc (l0_0,a1_0,l1_1,a2,())
noncomputable def Z5.l0 (x2:Int) (x8:Int) (b0_0:List (List Int)) (b1_0:Int) (b1_1:List Int) (r2:List Int):Option (List Int):=denAt Z5.E Z5.fn Z5.enc [1,1,0,1,0] { fr:=[(2,.lf (.int .i64 x2)),(3,.lf (.box 0 0)),(4,.lf (.box 1 0)),(7,.lf (.own 2)),(8,.lf (.int .i64 x8))],ob:=[(0,.box 26 false [.sl (.sl 2 (.int .i64)) b0_0]),(1,.box 29 false [.int .i64 b1_0,.sl (.int .i64) b1_1]),(2,.row 2 true (.int .i64) r2)],nx:=3 }
theorem Z5.f_eq (l0_0:List (List Int)) (a1_0:Int) (l1_1:List Int) (a2:Int):Z5.f l0_0 a1_0 l1_1 a2=Z5.l0 a2 0 l0_0 a1_0 l1_1 ([]:List Int):=by kernel_rfl
theorem Z5.l0_eq (x2:Int) (x8:Int) (b0_0:List (List Int)) (b1_0:Int) (b1_1:List Int) (r2:List Int):Z5.l0 x2 x8 b0_0 b1_0 b1_1 r2=(Zao.f b0_0).bind fun t12=>if x8 < t12 then(if 0≤x8 then(if x8 < (b1_1.length:Int)then((Za6.f (wrapI ((wrapI ((rd b1_1 x8)*x2)) - x2)) b1_0).bind fun t28=>if r2.length+([t28]:List Int).length≤17592186044416 then(Z5.l0 x2 (wrapI (x8+1)) b0_0 b1_0 b1_1 (r2++([t28]:List Int)))else none)else none)else none)else(some r2):=(Zv _ _ _ _).trans (by kernel_rfl)
noncomputable def Z5.con:Con:=⟨Z5.fn.ins,Z5.fn.outs,(List Int),fun x=>Z5.f x.1 x.2.1 x.2.2.1 x.2.2.2.1,fun r=>((r,()),(()))⟩
theorem Z5.valid:Valid Tryz.prog 129 Z5.con:=fnV Z5.fn Z5.E Z5.enc ⟨ttOk,(Zs Zao.valid (Zs Za6.valid Zaq))⟩ Tryz.func129
end Go.Proofs.YthmcpmnhdbeahaaGreat.P
namespace Go.Proofs.YthmcpmnhdbeahaaGreat.P
open Go Go.RowKit Go.Proofs.YthmcpmnhdbeahaaGreat.D
noncomputable def Zah.E:Env:={ tt:=TT,con:=[],frz:=[],rows:=[],live:=[(4,[0,1,5])],n:=40,pin:=0,nils:=[] }
noncomputable def Zah.fn:D.Fn:={ body:=Tryz.f117.body.getD .skip,res:=Tryz.f117.results.toList,ins:=[.one (.v (.sl 2 (.int .i64))),.one (.v (.sl 2 (.int .i64)))],outs:=[.one (.v .bool)] }
def Zah.enc (y:lsd (flats Zah.fn.outs)×lsd (ios Zah.fn.ins)):Bool:=y.1.1
noncomputable def Zah.f (l0:List Int) (l1:List Int):Option Bool:=denF Zah.E Zah.fn Zah.enc (l0,l1,())
noncomputable def Zah.l0 (x0:List Int) (x1:List Int) (x5:Int):Option Bool:=denAt Zah.E Zah.fn Zah.enc [1,1,0,1,0] { fr:=[(0,.lf (.sl (.int .i64) x0)),(1,.lf (.sl (.int .i64) x1)),(5,.lf (.int .i64 x5))],ob:=[],nx:=0 }
theorem Zah.f_eq (l0:List Int) (l1:List Int):Zah.f l0 l1=if(l0.length:Int)=(l1.length:Int)then(Zah.l0 l0 l1 0)else(some (decide ((l0.length:Int) < (l1.length:Int)))):=by kernel_rfl
theorem Zah.l0_eq (x0:List Int) (x1:List Int) (x5:Int):Zah.l0 x0 x1 x5=if x5 < (x0.length:Int)then(if 0≤x5 then(if x5 < (x0.length:Int)then(if 0≤x5 then(if x5 < (x1.length:Int)then(if(rd x0 x5)=(rd x1 x5)then(Zah.l0 x0 x1 (wrapI (x5+1)))else(if 0≤x5 then(if x5 < (x0.length:Int)then(if 0≤x5 then(if x5 < (x1.length:Int)then(some (decide ((rd x0 x5) < (rd x1 x5))))else none)else none)else none)else none))else none)else none)else none)else none)else(some false):=(Zv _ _ _ _).trans (by kernel_rfl)
noncomputable def Zah.con:Con:=⟨Zah.fn.ins,Zah.fn.outs,Bool,fun x=>Zah.f x.1 x.2.1,fun r=>((r,()),(()))⟩
theorem Zah.valid:Valid Tryz.prog 117 Zah.con:=fnV Zah.fn Zah.E Zah.enc ⟨ttOk,Zaq⟩ Tryz.func117
end Go.Proofs.YthmcpmnhdbeahaaGreat.P
namespace Go.Proofs.YthmcpmnhdbeahaaGreat.P
open Go Go.RowKit Go.Proofs.YthmcpmnhdbeahaaGreat.D
noncomputable def Zbm.E:Env:={ tt:=TT,con:=[(117,Zah.con)],frz:=[47],rows:=[35,41],live:=[(2,[0,1,5])],n:=48,pin:=0,nils:=[] }
noncomputable def Zbm.fn:D.Fn:={ body:=Tryz.f185.body.getD .skip,res:=Tryz.f185.results.toList,ins:=[.one (.v (.sl 27 (.sl 2 (.int .i64)))),.one (.v (.sl 2 (.int .i64)))],outs:=[.one (.v (.sl 27 (.sl 2 (.int .i64))))] }
def Zbm.enc (y:lsd (flats Zbm.fn.outs)×lsd (ios Zbm.fn.ins)):(List (List Int)):=y.1.1
noncomputable def Zbm.f (l0:List (List Int)) (l1:List Int):Option (List (List Int)):=denF Zbm.E Zbm.fn Zbm.enc (l0,l1,())
noncomputable def Zbm.l0 (x0:List (List Int)) (x1:List Int) (x5:Int):Option (List (List Int)):=denAt Zbm.E Zbm.fn Zbm.enc [1,1,0,0] { fr:=[(0,.lf (.sl (.sl 2 (.int .i64)) x0)),(1,.lf (.sl (.int .i64) x1)),(5,.lf (.int .i64 x5))],ob:=[],nx:=0 }
theorem Zbm.f_eq (l0:List (List Int)) (l1:List Int):Zbm.f l0 l1=Zbm.l0 l0 l1 (l0.length:Int):=by kernel_rfl
theorem Zbm.l0_eq (x0:List (List Int)) (x1:List Int) (x5:Int):Zbm.l0 x0 x1 x5=if x5 > 0 then(if 0≤wrapI (x5 - 1)then(if wrapI (x5 - 1) < (x0.length:Int)then((Zah.f x1 (row x0 (wrapI (x5 - 1)))).bind fun t18=>if t18=true then(Zbm.l0 x0 x1 (wrapI (x5 - 1)))else(if x5 > 0 then(if 0≤wrapI (x5 - 1)then(if wrapI (x5 - 1) < (x0.length:Int)then((Zah.f (row x0 (wrapI (x5 - 1))) x1).bind fun t31=>if t31=true then(if 0≤x5 then(if x5≤(x0.length:Int)then(if([]:List (List Int)).length+(x0.take (x5:Int).toNat).length≤5864062014805 then(if(([]:List (List Int))++(x0.take (x5:Int).toNat)).length+([x1]:List (List Int)).length≤5864062014805 then(if 0≤x5 then(if x5≤(x0.length:Int)then(if((([]:List (List Int))++(x0.take (x5:Int).toNat))++([x1]:List (List Int))).length+(x0.drop (x5:Int).toNat).length≤5864062014805 then(some (((([]:List (List Int))++(x0.take (x5:Int).toNat))++([x1]:List (List Int)))++(x0.drop (x5:Int).toNat)))else none)else none)else none)else none)else none)else none)else none)else(some x0))else none)else none)else(if 0≤x5 then(if x5≤(x0.length:Int)then(if([]:List (List Int)).length+(x0.take (x5:Int).toNat).length≤5864062014805 then(if(([]:List (List Int))++(x0.take (x5:Int).toNat)).length+([x1]:List (List Int)).length≤5864062014805 then(if 0≤x5 then(if x5≤(x0.length:Int)then(if((([]:List (List Int))++(x0.take (x5:Int).toNat))++([x1]:List (List Int))).length+(x0.drop (x5:Int).toNat).length≤5864062014805 then(some (((([]:List (List Int))++(x0.take (x5:Int).toNat))++([x1]:List (List Int)))++(x0.drop (x5:Int).toNat)))else none)else none)else none)else none)else none)else none)else none)))else none)else none)else(if x5 > 0 then(if 0≤wrapI (x5 - 1)then(if wrapI (x5 - 1) < (x0.length:Int)then((Zah.f (row x0 (wrapI (x5 - 1))) x1).bind fun t31=>if t31=true then(if 0≤x5 then(if x5≤(x0.length:Int)then(if([]:List (List Int)).length+(x0.take (x5:Int).toNat).length≤5864062014805 then(if(([]:List (List Int))++(x0.take (x5:Int).toNat)).length+([x1]:List (List Int)).length≤5864062014805 then(if 0≤x5 then(if x5≤(x0.length:Int)then(if((([]:List (List Int))++(x0.take (x5:Int).toNat))++([x1]:List (List Int))).length+(x0.drop (x5:Int).toNat).length≤5864062014805 then(some (((([]:List (List Int))++(x0.take (x5:Int).toNat))++([x1]:List (List Int)))++(x0.drop (x5:Int).toNat)))else none)else none)else none)else none)else none)else none)else none)else(some x0))else none)else none)else(if 0≤x5 then(if x5≤(x0.length:Int)then(if([]:List (List Int)).length+(x0.take (x5:Int).toNat).length≤5864062014805 then(if(([]:List (List Int))++(x0.take (x5:Int).toNat)).length+([x1]:List (List Int)).length≤5864062014805 then(if 0≤x5 then(if x5≤(x0.length:Int)then(if((([]:List (List Int))++(x0.take (x5:Int).toNat))++([x1]:List (List Int))).length+(x0.drop (x5:Int).toNat).length≤5864062014805 then(some (((([]:List (List Int))++(x0.take (x5:Int).toNat))++([x1]:List (List Int)))++(x0.drop (x5:Int).toNat)))else none)else none)else none)else none)else none)else none)else none)):=(Zv _ _ _ _).trans (by kernel_rfl)
noncomputable def Zbm.con:Con:=⟨Zbm.fn.ins,Zbm.fn.outs,(List (List Int)),fun x=>Zbm.f x.1 x.2.1,fun r=>((r,()),(()))⟩
theorem Zbm.valid:Valid Tryz.prog 185 Zbm.con:=fnV Zbm.fn Zbm.E Zbm.enc ⟨ttOk,(Zs Zah.valid Zaq)⟩ Tryz.func185
end Go.Proofs.YthmcpmnhdbeahaaGreat.P
namespace Go.Proofs.YthmcpmnhdbeahaaGreat.P
open Go Go.RowKit Go.Proofs.YthmcpmnhdbeahaaGreat.D
noncomputable def Zbg.E:Env:={ tt:=TT,con:=[(129,Z5.con),(185,Zbm.con)],frz:=[7,18],rows:=[],live:=[(3,[2,3,5,6])],n:=21,pin:=0,nils:=[] }
noncomputable def Zbg.fn:D.Fn:={ body:=Tryz.f112.body.getD .skip,res:=Tryz.f112.results.toList,ins:=[.agg [.v (.sl 27 (.sl 2 (.int .i64)))],.agg [.v (.int .i64),.v (.sl 2 (.int .i64))]],outs:=[.one (.v (.sl 27 (.sl 2 (.int .i64))))] }
def Zbg.enc (y:lsd (flats Zbg.fn.outs)×lsd (ios Zbg.fn.ins)):(List (List Int)):=y.1.1
noncomputable def Zbg.f (l0_0:List (List Int)) (a1_0:Int) (l1_1:List Int):Option (List (List Int)):=denF Zbg.E Zbg.fn Zbg.enc (l0_0,a1_0,l1_1,())
noncomputable def Zbg.l0 (x5:List (List Int)) (x6:Int) (b0_0:List (List Int)) (b1_0:Int) (b1_1:List Int):Option (List (List Int)):=denAt Zbg.E Zbg.fn Zbg.enc [1,1,0,1,0] { fr:=[(2,.lf (.box 0 0)),(3,.lf (.box 1 0)),(5,.lf (.sl (.sl 2 (.int .i64)) x5)),(6,.lf (.int .i64 x6))],ob:=[(0,.box 26 false [.sl (.sl 2 (.int .i64)) b0_0]),(1,.box 29 false [.int .i64 b1_0,.sl (.int .i64) b1_1])],nx:=2 }
theorem Zbg.f_eq (l0_0:List (List Int)) (a1_0:Int) (l1_1:List Int):Zbg.f l0_0 a1_0 l1_1=Zbg.l0 ([]:List (List Int)) 0 l0_0 a1_0 l1_1:=by kernel_rfl
theorem Zbg.l0_eq (x5:List (List Int)) (x6:Int) (b0_0:List (List Int)) (b1_0:Int) (b1_1:List Int):Zbg.l0 x5 x6 b0_0 b1_0 b1_1=if x6 < b1_0 then((Z5.f b0_0 b1_0 b1_1 x6).bind fun t18=>(Zbm.f x5 t18).bind fun t19=>Zbg.l0 t19 (wrapI (x6+1)) b0_0 b1_0 b1_1)else(some x5):=(Zv _ _ _ _).trans (by kernel_rfl)
noncomputable def Zbg.con:Con:=⟨Zbg.fn.ins,Zbg.fn.outs,(List (List Int)),fun x=>Zbg.f x.1 x.2.1 x.2.2.1,fun r=>((r,()),(()))⟩
theorem Zbg.valid:Valid Tryz.prog 112 Zbg.con:=fnV Zbg.fn Zbg.E Zbg.enc ⟨ttOk,(Zs Z5.valid (Zs Zbm.valid Zaq))⟩ Tryz.func112
end Go.Proofs.YthmcpmnhdbeahaaGreat.P
namespace Go.Proofs.YthmcpmnhdbeahaaGreat.P
open Go Go.RowKit Go.Proofs.YthmcpmnhdbeahaaGreat.D
noncomputable def ZaB.E:Env:={ tt:=TT,con:=[(109,ZD.con),(110,Zaf.con),(112,Zbg.con)],frz:=[],rows:=[],live:=[],n:=18,pin:=0,nils:=[] }
noncomputable def ZaB.fn:D.Fn:={ body:=Tryz.f31.body.getD .skip,res:=Tryz.f31.results.toList,ins:=[.agg [.v (.sl 27 (.sl 2 (.int .i64)))],.agg [.v (.int .i64),.v (.sl 2 (.int .i64))]],outs:=[.one (.v (.sl 27 (.sl 2 (.int .i64)))),.one (.v (.int .i64))] }
def ZaB.enc (y:lsd (flats ZaB.fn.outs)×lsd (ios ZaB.fn.ins)):(List (List Int))×Int:=(y.1.1,y.1.2.1)
noncomputable def ZaB.f (l0_0:List (List Int)) (a1_0:Int) (l1_1:List Int):Option ((List (List Int))×Int):=denF ZaB.E ZaB.fn ZaB.enc (l0_0,a1_0,l1_1,())
theorem ZaB.f_eq (l0_0:List (List Int)) (a1_0:Int) (l1_1:List Int):ZaB.f l0_0 a1_0 l1_1=(ZD.f l0_0).bind fun t7=>if t7=true then((Zaf.f l0_0 a1_0 l1_1).bind fun t12=>if t12=true then((Zbg.f l0_0 a1_0 l1_1).bind fun t17=>some (t17,0))else(some (([]:List (List Int)),1)))else(some (([]:List (List Int)),1)):=by kernel_rfl
noncomputable def ZaB.con:Con:=⟨ZaB.fn.ins,ZaB.fn.outs,(List (List Int))×Int,fun x=>ZaB.f x.1 x.2.1 x.2.2.1,fun r=>((r.1,r.2,()),(()))⟩
theorem ZaB.valid:Valid Tryz.prog 31 ZaB.con:=fnV ZaB.fn ZaB.E ZaB.enc ⟨ttOk,(Zs ZD.valid (Zs Zaf.valid (Zs Zbg.valid Zaq)))⟩ Tryz.func31
end Go.Proofs.YthmcpmnhdbeahaaGreat.P
namespace Go.Proofs.YthmcpmnhdbeahaaGreat.R
open Go Go.RowKit Go.Proofs.YthmcpmnhdbeahaaGreat.D
noncomputable def Zh.E:Env:={ tt:=TT,con:=[],frz:=[],rows:=[],live:=[(2,[0,1,7,8])],n:=19,pin:=0,nils:=[] }
noncomputable def Zh.fn:D.Fn:={ body:=Tryz.f186.body.getD .skip,res:=Tryz.f186.results.toList,ins:=[.one (.v (.sl 27 .raw)),.one (.fn [.raw] .bool)],outs:=[.one (.v (.int .i64))] }
def Zh.enc (y:lsd (flats Zh.fn.outs)×lsd (ios Zh.fn.ins)):Int:=y.1.1
noncomputable def Zh.f (l0:List Value) (f1:Value→Option Bool):Option Int:=denF Zh.E Zh.fn Zh.enc (l0,fun x=>f1 x.1,())
noncomputable def Zh.l0 (x0:List Value) (fx1:Value→Option Bool) (x7:Int) (x8:Int):Option Int:=denAt Zh.E Zh.fn Zh.enc [1,0,1,0] { fr:=[(0,.lf (.sl .raw x0)),(1,.lf (.fn [.raw] .bool (fun x=>fx1 x.1))),(7,.lf (.int .i64 x7)),(8,.lf (.int .i64 x8))],ob:=[],nx:=0 }
theorem Zh.f_eq (l0:List Value) (f1:Value→Option Bool):Zh.f l0 f1=Zh.l0 l0 f1 (l0.length:Int) 0:=by kernel_rfl
theorem Zh.l0_eq (x0:List Value) (fx1:Value→Option Bool) (x7:Int) (x8:Int):Zh.l0 x0 fx1 x7 x8=if x8 < x7 then(if 0≤x8 then(if x8 < (x0.length:Int)then((fx1 (Ty.rd .raw x0 x8)).bind fun t16=>if t16=true then(some x8)else(Zh.l0 x0 fx1 x7 (wrapI (x8+1))))else none)else none)else(some (-1)):=(Zv _ _ _ _).trans (by kernel_rfl)
noncomputable def Zh.con:Con:=⟨Zh.fn.ins,Zh.fn.outs,Int,fun x=>Zh.f x.1 (fun z0=>x.2.1 (z0,())),fun r=>((r,()),(()))⟩
theorem Zh.valid:Valid Tryz.prog 186 Zh.con:=fnV Zh.fn Zh.E Zh.enc ⟨ttOk,Zaq⟩ Tryz.func186
end Go.Proofs.YthmcpmnhdbeahaaGreat.R
namespace Go.Proofs.YthmcpmnhdbeahaaGreat.R
open Go Go.RowKit Go.Proofs.YthmcpmnhdbeahaaGreat.D
noncomputable def Zi.E:Env:={ tt:=TT,con:=[(186,Zh.con)],frz:=[],rows:=[],live:=[(5,[0,1,5,6])],n:=42,pin:=0,nils:=[] }
noncomputable def Zi.fn:D.Fn:={ body:=Tryz.f113.body.getD .skip,res:=Tryz.f113.results.toList,ins:=[.eat 27 true .raw,.one (.fn [.raw] .bool)],outs:=[.one (.own 27 true .raw)] }
def Zi.enc (y:lsd (flats Zi.fn.outs)×lsd (ios Zi.fn.ins)):(List Value):=y.1.1
noncomputable def Zi.f (l0:List Value) (f1:Value→Option Bool):Option (List Value):=denF Zi.E Zi.fn Zi.enc (l0,fun x=>f1 x.1,())
noncomputable def Zi.l0 (fx1:Value→Option Bool) (x5:Int) (x6:Int) (r0:List Value):Option (List Value):=denAt Zi.E Zi.fn Zi.enc [1,1,1,0,1,0] { fr:=[(0,.lf (.own 0)),(1,.lf (.fn [.raw] .bool (fun x=>fx1 x.1))),(5,.lf (.int .i64 x5)),(6,.lf (.int .i64 x6))],ob:=[(0,.row 27 true .raw r0)],nx:=1 }
theorem Zi.f_eq (l0:List Value) (f1:Value→Option Bool):Zi.f l0 f1=(Zh.f l0 (fun z0=>(f1 z0).map fun z=>z)).bind fun t10=>if t10=(-1)then(some l0)else(Zi.l0 f1 t10 (wrapI (t10+1)) l0):=by kernel_rfl
theorem Zi.l0_eq (fx1:Value→Option Bool) (x5:Int) (x6:Int) (r0:List Value):Zi.l0 fx1 x5 x6 r0=if x6 < (r0.length:Int)then(if 0≤x6 then(if x6 < (r0.length:Int)then(if 0≤x6 then(if x6 < (r0.length:Int)then((fx1 (Ty.rd .raw r0 x6)).bind fun t28=>if t28=true then(Zi.l0 fx1 x5 (wrapI (x6+1)) r0)else(if 0≤x5 then(if x5 < (r0.length:Int)then(if 0≤x5 then(if x5 < (r0.length:Int)then(Zi.l0 fx1 (wrapI (x5+1)) (wrapI (x6+1)) (r0.set (x5:Int).toNat (Ty.rd .raw r0 x6)))else none)else none)else none)else none))else none)else none)else none)else none)else(if 0 < (r0.length:Int)then(if 0≤x5 then(if x5≤(r0.length:Int)then(if 0 < ((r0.take ((x5:Int).toNat)++List.replicate (r0.length - ((x5:Int).toNat)) (Value.slice none 0 0)).length:Int)then(if 0≤x5 then(if x5≤((r0.take ((x5:Int).toNat)++List.replicate (r0.length - ((x5:Int).toNat)) (Value.slice none 0 0)).length:Int)then(some ((r0.take ((x5:Int).toNat)++List.replicate (r0.length - ((x5:Int).toNat)) (Value.slice none 0 0)).take (x5:Int).toNat))else none)else none)else none)else none)else none)else none):=(Zv _ _ _ _).trans (by kernel_rfl)
noncomputable def Zi.con:Con:=⟨Zi.fn.ins,Zi.fn.outs,(List Value),fun x=>Zi.f x.1 (fun z0=>x.2.1 (z0,())),fun r=>((r,()),(()))⟩
theorem Zi.valid:Valid Tryz.prog 113 Zi.con:=fnV Zi.fn Zi.E Zi.enc ⟨ttOk,(Zs Zh.valid Zaq)⟩ Tryz.func113
end Go.Proofs.YthmcpmnhdbeahaaGreat.R
namespace Go.Proofs.YthmcpmnhdbeahaaGreat.P
open Go Go.RowKit Go.Proofs.YthmcpmnhdbeahaaGreat.D
noncomputable def ZbN.f (l0:List (List Int)) (f1:(List Int)→Option Bool):Option (List (List Int)):=G1 R.Zi.f l0 f1
noncomputable def ZbN.con:Con:=⟨[.eat 27 true (.sl 2 (.int .i64)),.one (.fn [(.sl 2 (.int .i64))] .bool)],[.one (.own 27 true (.sl 2 (.int .i64)))],List (List Int),fun x=>ZbN.f x.1 (fun z0=>x.2.1 (z0,())),fun r=>((r,()),(()))⟩
theorem ZbN.valid:Valid Tryz.prog 113 ZbN.con:=Zj8 R.Zi.valid
end Go.Proofs.YthmcpmnhdbeahaaGreat.P
namespace Go.Proofs.YthmcpmnhdbeahaaGreat.P
open Go Go.RowKit Go.Proofs.YthmcpmnhdbeahaaGreat.D
noncomputable def Zai.E:Env:={ tt:=TT,con:=[(97,ZJ.con),(115,ZP.con)],frz:=[],rows:=[],live:=[],n:=12,pin:=0,nils:=[] }
noncomputable def Zai.fn:D.Fn:={ body:=Tryz.f114.body.getD .skip,res:=Tryz.f114.results.toList,ins:=[.one (.v (.sl 2 (.int .i64))),.ptr true 29 [.v (.int .i64),.v (.sl 2 (.int .i64))],.ptr true 24 [.v (.sl 27 (.sl 2 (.int .i64)))]],outs:=[.one (.v .bool)] }
def Zai.enc (y:lsd (flats Zai.fn.outs)×lsd (ios Zai.fn.ins)):Bool:=y.1.1
noncomputable def Zai.f (l0:List Int) (a1_0:Int) (l1_1:List Int) (l2:List (List Int)):Option Bool:=denF Zai.E Zai.fn Zai.enc (l0,a1_0,l1_1,l2,())
theorem Zai.f_eq (l0:List Int) (a1_0:Int) (l1_1:List Int) (l2:List (List Int)):Zai.f l0 a1_0 l1_1 l2=(ZJ.f a1_0 l1_1 l0 l2).bind fun t8=>(ZP.f t8 l0).bind fun t10=>some (!decide (t10=true)):=by kernel_rfl
noncomputable def Zai.con:Con:=⟨Zai.fn.ins,Zai.fn.outs,Bool,fun x=>Zai.f x.1 x.2.1 x.2.2.1 x.2.2.2.1,fun r=>((r,()),(()))⟩
theorem Zai.valid:Valid Tryz.prog 114 Zai.con:=fnV Zai.fn Zai.E Zai.enc ⟨ttOk,(Zs ZJ.valid (Zs ZP.valid Zaq))⟩ Tryz.func114
end Go.Proofs.YthmcpmnhdbeahaaGreat.P
namespace Go.Proofs.YthmcpmnhdbeahaaGreat.P
open Go Go.RowKit Go.Proofs.YthmcpmnhdbeahaaGreat.D
noncomputable def Zag.E:Env:={ tt:=TT,con:=[(107,Zau.con),(98,ZN.con),(108,Z9.con),(113,ZbN.con),(114,Zai.con)],frz:=[],rows:=[10],live:=[],n:=22,pin:=0,nils:=[] }
noncomputable def Zag.fn:D.Fn:={ body:=Tryz.f32.body.getD .skip,res:=Tryz.f32.results.toList,ins:=[.agg [.v (.sl 27 (.sl 2 (.int .i64)))],.agg [.v (.int .i64),.v (.sl 2 (.int .i64))]],outs:=[.one (.own 27 true (.sl 2 (.int .i64))),.one (.v (.int .i64))] }
def Zag.enc (y:lsd (flats Zag.fn.outs)×lsd (ios Zag.fn.ins)):(List (List Int))×Int:=(y.1.1,y.1.2.1)
noncomputable def Zag.f (l0_0:List (List Int)) (a1_0:Int) (l1_1:List Int):Option ((List (List Int))×Int):=denF Zag.E Zag.fn Zag.enc (l0_0,a1_0,l1_1,())
theorem Zag.f_eq (l0_0:List (List Int)) (a1_0:Int) (l1_1:List Int):Zag.f l0_0 a1_0 l1_1=(Zau.f l0_0 ([(a1_0,l1_1)]:List (Int×(List Int)))).bind fun t11=>if t11=0 then((ZN.f a1_0 l1_1).bind fun t16=>(Z9.f l0_0 a1_0 l1_1).bind fun t19=>(ZbN.f t19 (fun z0=>(Zai.f z0 a1_0 l1_1 t16).map fun z=>z)).bind fun t21=>some (t21,0))else(some (([]:List (List Int)),t11)):=by kernel_rfl
noncomputable def Zag.con:Con:=⟨Zag.fn.ins,Zag.fn.outs,(List (List Int))×Int,fun x=>Zag.f x.1 x.2.1 x.2.2.1,fun r=>((r.1,r.2,()),(()))⟩
theorem Zag.valid:Valid Tryz.prog 32 Zag.con:=fnV Zag.fn Zag.E Zag.enc ⟨ttOk,(Zs Zau.valid (Zs ZN.valid (Zs Z9.valid (Zs ZbN.valid (Zs Zai.valid Zaq)))))⟩ Tryz.func32
end Go.Proofs.YthmcpmnhdbeahaaGreat.P
namespace Go.Proofs.YthmcpmnhdbeahaaGreat.P
open Go Go.RowKit Go.Proofs.YthmcpmnhdbeahaaGreat.D
noncomputable def Z8.E:Env:={ tt:=TT,con:=[(184,ZaJ.con),(129,Z5.con),(104,Za6.con),(117,Zah.con)],frz:=[],rows:=[],live:=[(3,[2,3,4,7,8]),(7,[2,3,4,7,8,9,10,11])],n:=51,pin:=0,nils:=[] }
noncomputable def Z8.fn:D.Fn:={ body:=Tryz.f116.body.getD .skip,res:=Tryz.f116.results.toList,ins:=[.agg [.v (.sl 27 (.sl 2 (.int .i64)))],.agg [.v (.int .i64),.v (.sl 2 (.int .i64))],.one (.v (.sl 2 (.int .i64)))],outs:=[.one (.own 2 true (.int .i64))] }
def Z8.enc (y:lsd (flats Z8.fn.outs)×lsd (ios Z8.fn.ins)):(List Int):=y.1.1
noncomputable def Z8.f (l0_0:List (List Int)) (a1_0:Int) (l1_1:List Int) (l2:List Int):Option (List Int):=denF Z8.E Z8.fn Z8.enc (l0_0,a1_0,l1_1,l2,())
noncomputable def Z8.l0 (x2:List Int) (x8:Int) (b0_0:List (List Int)) (b1_0:Int) (b1_1:List Int) (r2:List Int):Option (List Int):=denAt Z8.E Z8.fn Z8.enc [1,1,0,1,0] { fr:=[(2,.lf (.sl (.int .i64) x2)),(3,.lf (.box 0 0)),(4,.lf (.box 1 0)),(7,.lf (.own 2)),(8,.lf (.int .i64 x8))],ob:=[(0,.box 26 false [.sl (.sl 2 (.int .i64)) b0_0]),(1,.box 29 false [.int .i64 b1_0,.sl (.int .i64) b1_1]),(2,.row 2 true (.int .i64) r2)],nx:=3 }
noncomputable def Z8.l1 (x2:List Int) (x8:Int) (x11:Int) (b0_0:List (List Int)) (b1_0:Int) (b1_1:List Int) (r2:List Int) (r3:List Int) (r4:List Int):Option (List Int):=denAt Z8.E Z8.fn Z8.enc [1,1,0,1,0,0,1,0,0,1,0,1,0] { fr:=[(2,.lf (.sl (.int .i64) x2)),(3,.lf (.box 0 0)),(4,.lf (.box 1 0)),(7,.lf (.own 2)),(8,.lf (.int .i64 x8)),(9,.lf (.own 3)),(10,.lf (.own 4)),(11,.lf (.int .i64 x11))],ob:=[(0,.box 26 false [.sl (.sl 2 (.int .i64)) b0_0]),(1,.box 29 false [.int .i64 b1_0,.sl (.int .i64) b1_1]),(2,.row 2 true (.int .i64) r2),(3,.row 2 true (.int .i64) r3),(4,.row 2 true (.int .i64) r4)],nx:=5 }
theorem Z8.f_eq (l0_0:List (List Int)) (a1_0:Int) (l1_1:List Int) (l2:List Int):Z8.f l0_0 a1_0 l1_1 l2=(ZaJ.f l2).bind fun t13=>Z8.l0 l2 0 l0_0 a1_0 l1_1 t13:=by kernel_rfl
theorem Z8.l0_eq (x2:List Int) (x8:Int) (b0_0:List (List Int)) (b1_0:Int) (b1_1:List Int) (r2:List Int):Z8.l0 x2 x8 b0_0 b1_0 b1_1 r2=if x8 < b1_0 then((Z5.f b0_0 b1_0 b1_1 x8).bind fun t23=>Z8.l1 x2 x8 0 b0_0 b1_0 b1_1 r2 t23 ([]:List Int))else(some r2):=(Zv _ _ _ _).trans (by kernel_rfl)
theorem Z8.l1_eq (x2:List Int) (x8:Int) (x11:Int) (b0_0:List (List Int)) (b1_0:Int) (b1_1:List Int) (r2:List Int) (r3:List Int) (r4:List Int):Z8.l1 x2 x8 x11 b0_0 b1_0 b1_1 r2 r3 r4=if x11 < (x2.length:Int)then(if 0≤x11 then(if x11 < (x2.length:Int)then(if 0≤x11 then(if x11 < (r3.length:Int)then(if 0≤x11 then(if x11 < (r3.length:Int)then((Za6.f (wrapI ((rd x2 x11)+(rd r3 x11))) b1_0).bind fun t43=>if r4.length+([t43]:List Int).length≤17592186044416 then(Z8.l1 x2 x8 (wrapI (x11+1)) b0_0 b1_0 b1_1 r2 r3 (r4++([t43]:List Int)))else none)else none)else none)else none)else none)else none)else none)else((Zah.f r4 r2).bind fun t48=>if t48=true then(Z8.l0 x2 (wrapI (x8+1)) b0_0 b1_0 b1_1 r4)else(Z8.l0 x2 (wrapI (x8+1)) b0_0 b1_0 b1_1 r2)):=(Zv _ _ _ _).trans (by kernel_rfl)
noncomputable def Z8.con:Con:=⟨Z8.fn.ins,Z8.fn.outs,(List Int),fun x=>Z8.f x.1 x.2.1 x.2.2.1 x.2.2.2.1,fun r=>((r,()),(()))⟩
theorem Z8.valid:Valid Tryz.prog 116 Z8.con:=fnV Z8.fn Z8.E Z8.enc ⟨ttOk,(Zs ZaJ.valid (Zs Z5.valid (Zs Za6.valid (Zs Zah.valid Zaq))))⟩ Tryz.func116
end Go.Proofs.YthmcpmnhdbeahaaGreat.P
namespace Go.Proofs.YthmcpmnhdbeahaaGreat.P
open Go Go.RowKit Go.Proofs.YthmcpmnhdbeahaaGreat.D
noncomputable def ZM.E:Env:={ tt:=TT,con:=[(109,ZD.con),(110,Zaf.con),(111,Zn.con),(116,Z8.con),(117,Zah.con)],frz:=[21],rows:=[23,49],live:=[(5,[2,3,6,7,8])],n:=52,pin:=0,nils:=[] }
noncomputable def ZM.fn:D.Fn:={ body:=Tryz.f33.body.getD .skip,res:=Tryz.f33.results.toList,ins:=[.agg [.v (.sl 27 (.sl 2 (.int .i64)))],.agg [.v (.int .i64),.v (.sl 2 (.int .i64))]],outs:=[.one (.own 27 false (.sl 2 (.int .i64))),.one (.v (.int .i64))] }
def ZM.enc (y:lsd (flats ZM.fn.outs)×lsd (ios ZM.fn.ins)):(List (List Int))×Int:=(y.1.1,y.1.2.1)
noncomputable def ZM.f (l0_0:List (List Int)) (a1_0:Int) (l1_1:List Int):Option ((List (List Int))×Int):=denF ZM.E ZM.fn ZM.enc (l0_0,a1_0,l1_1,())
noncomputable def ZM.l0 (x8:Int) (b0_0:List (List Int)) (b1_0:Int) (b1_1:List Int) (r2:List (List Int)) (r3:List (List Int)):Option ((List (List Int))×Int):=denAt ZM.E ZM.fn ZM.enc [1,1,1,0,1,0] { fr:=[(2,.lf (.box 0 0)),(3,.lf (.box 1 0)),(6,.lf (.own 2)),(7,.lf (.own 3)),(8,.lf (.int .i64 x8))],ob:=[(0,.box 26 false [.sl (.sl 2 (.int .i64)) b0_0]),(1,.box 29 false [.int .i64 b1_0,.sl (.int .i64) b1_1]),(2,.row 27 false (.sl 2 (.int .i64)) r2),(3,.row 27 false (.sl 2 (.int .i64)) r3)],nx:=4 }
theorem ZM.f_eq (l0_0:List (List Int)) (a1_0:Int) (l1_1:List Int):ZM.f l0_0 a1_0 l1_1=(ZD.f l0_0).bind fun t11=>if t11=true then((Zaf.f l0_0 a1_0 l1_1).bind fun t16=>if t16=true then((Zn.f fuel l0_0 a1_0 l1_1 ([]:List Int)).bind fun t22=>ZM.l0 0 l0_0 a1_0 l1_1 t22 ([]:List (List Int)))else(some (([]:List (List Int)),1)))else(some (([]:List (List Int)),1)):=by kernel_rfl
theorem ZM.l0_eq (x8:Int) (b0_0:List (List Int)) (b1_0:Int) (b1_1:List Int) (r2:List (List Int)) (r3:List (List Int)):ZM.l0 x8 b0_0 b1_0 b1_1 r2 r3=if x8 < (r2.length:Int)then(if 0≤x8 then(if x8 < (r2.length:Int)then(if 0≤x8 then(if x8 < (r2.length:Int)then((Z8.f b0_0 b1_0 b1_1 (row r2 x8)).bind fun t36=>if 0≤x8 then(if x8 < (r2.length:Int)then(if 0≤x8 then(if x8 < (r2.length:Int)then((Zah.f t36 (row r2 x8)).bind fun t42=>if t42=true then(ZM.l0 (wrapI (x8+1)) b0_0 b1_0 b1_1 r2 r3)else(if 0≤x8 then(if x8 < (r2.length:Int)then(if 0≤x8 then(if x8 < (r2.length:Int)then(if r3.length+([row r2 x8]:List (List Int)).length≤5864062014805 then(ZM.l0 (wrapI (x8+1)) b0_0 b1_0 b1_1 r2 (r3++([row r2 x8]:List (List Int))))else none)else none)else none)else none)else none))else none)else none)else none)else none)else none)else none)else none)else none)else(some (r3,0)):=(Zv _ _ _ _).trans (by kernel_rfl)
noncomputable def ZM.con:Con:=⟨ZM.fn.ins,ZM.fn.outs,(List (List Int))×Int,fun x=>ZM.f x.1 x.2.1 x.2.2.1,fun r=>((r.1,r.2,()),(()))⟩
theorem ZM.valid:Valid Tryz.prog 33 ZM.con:=fnV ZM.fn ZM.E ZM.enc ⟨ttOk,(Zs ZD.valid (Zs Zaf.valid (Zs Zn.valid (Zs Z8.valid (Zs Zah.valid Zaq)))))⟩ Tryz.func33
end Go.Proofs.YthmcpmnhdbeahaaGreat.P
namespace Go.Proofs.YthmcpmnhdbeahaaGreat.P
open Go Go.RowKit Go.Proofs.YthmcpmnhdbeahaaGreat.D
noncomputable def Zbt.E:Env:={ tt:=TT,con:=[(16,ZaA.con)],frz:=[],rows:=[],live:=[(4,[0,1,5])],n:=27,pin:=0,nils:=[] }
noncomputable def Zbt.fn:D.Fn:={ body:=Tryz.f34.body.getD .skip,res:=Tryz.f34.results.toList,ins:=[.one (.v (.sl 27 (.sl 2 (.int .i64)))),.one (.v (.sl 27 (.sl 2 (.int .i64))))],outs:=[.one (.v .bool)] }
def Zbt.enc (y:lsd (flats Zbt.fn.outs)×lsd (ios Zbt.fn.ins)):Bool:=y.1.1
noncomputable def Zbt.f (l0:List (List Int)) (l1:List (List Int)):Option Bool:=denF Zbt.E Zbt.fn Zbt.enc (l0,l1,())
noncomputable def Zbt.l0 (x0:List (List Int)) (x1:List (List Int)) (x5:Int):Option Bool:=denAt Zbt.E Zbt.fn Zbt.enc [1,1,0,1,0] { fr:=[(0,.lf (.sl (.sl 2 (.int .i64)) x0)),(1,.lf (.sl (.sl 2 (.int .i64)) x1)),(5,.lf (.int .i64 x5))],ob:=[],nx:=0 }
theorem Zbt.f_eq (l0:List (List Int)) (l1:List (List Int)):Zbt.f l0 l1=if(l0.length:Int)=(l1.length:Int)then(Zbt.l0 l0 l1 0)else(some false):=by kernel_rfl
theorem Zbt.l0_eq (x0:List (List Int)) (x1:List (List Int)) (x5:Int):Zbt.l0 x0 x1 x5=if x5 < (x0.length:Int)then(if 0≤x5 then(if x5 < (x0.length:Int)then(if 0≤x5 then(if x5 < (x1.length:Int)then((ZaA.f (row x0 x5) (row x1 x5)).bind fun t25=>if t25=true then(Zbt.l0 x0 x1 (wrapI (x5+1)))else(some false))else none)else none)else none)else none)else(some true):=(Zv _ _ _ _).trans (by kernel_rfl)
noncomputable def Zbt.con:Con:=⟨Zbt.fn.ins,Zbt.fn.outs,Bool,fun x=>Zbt.f x.1 x.2.1,fun r=>((r,()),(()))⟩
theorem Zbt.valid:Valid Tryz.prog 34 Zbt.con:=fnV Zbt.fn Zbt.E Zbt.enc ⟨ttOk,(Zs ZaA.valid Zaq)⟩ Tryz.func34
end Go.Proofs.YthmcpmnhdbeahaaGreat.P
namespace Go.Proofs.YthmcpmnhdbeahaaGreat.P
open Go Go.RowKit Go.Proofs.YthmcpmnhdbeahaaGreat.D
noncomputable def Za9.E:Env:={ tt:=TT,con:=[(118,ZaC.con),(119,Z7.con)],frz:=[],rows:=[],live:=[],n:=20,pin:=0,nils:=[] }
noncomputable def Za9.fn:D.Fn:={ body:=Tryz.f35.body.getD .skip,res:=Tryz.f35.results.toList,ins:=[.agg [.v (.sl 27 (.sl 2 (.int .i64)))],.agg [.v (.int .i64),.v (.sl 2 (.int .i64))],.one (.v (.sl 2 (.int .i64)))],outs:=[.one (.v .bool),.one (.v (.int .i64))] }
def Za9.enc (y:lsd (flats Za9.fn.outs)×lsd (ios Za9.fn.ins)):Bool×Int:=(y.1.1,y.1.2.1)
noncomputable def Za9.f (l0_0:List (List Int)) (a1_0:Int) (l1_1:List Int) (l2:List Int):Option (Bool×Int):=denF Za9.E Za9.fn Za9.enc (l0_0,a1_0,l1_1,l2,())
theorem Za9.f_eq (l0_0:List (List Int)) (a1_0:Int) (l1_1:List Int) (l2:List Int):Za9.f l0_0 a1_0 l1_1 l2=(ZaC.f l0_0 a1_0 l1_1 l2).bind fun t12=>if t12=0 then((Z7.f l0_0 a1_0 l1_1 l2).bind fun t19=>some (decide (t19=true),0))else(some (false,t12)):=by kernel_rfl
noncomputable def Za9.con:Con:=⟨Za9.fn.ins,Za9.fn.outs,Bool×Int,fun x=>Za9.f x.1 x.2.1 x.2.2.1 x.2.2.2.1,fun r=>((r.1,r.2,()),(()))⟩
theorem Za9.valid:Valid Tryz.prog 35 Za9.con:=fnV Za9.fn Za9.E Za9.enc ⟨ttOk,(Zs ZaC.valid (Zs Z7.valid Zaq))⟩ Tryz.func35
end Go.Proofs.YthmcpmnhdbeahaaGreat.P
namespace Go.Proofs.YthmcpmnhdbeahaaGreat.P
open Go Go.RowKit Go.Proofs.YthmcpmnhdbeahaaGreat.D
noncomputable def ZbM.E:Env:={ tt:=TT,con:=[],frz:=[],rows:=[],live:=[(3,[0,3,4])],n:=18,pin:=0,nils:=[] }
noncomputable def ZbM.fn:D.Fn:={ body:=Tryz.f36.body.getD .skip,res:=Tryz.f36.results.toList,ins:=[.one (.v (.sl 2 (.int .i64)))],outs:=[.one (.v (.int .i64))] }
def ZbM.enc (y:lsd (flats ZbM.fn.outs)×lsd (ios ZbM.fn.ins)):Int:=y.1.1
noncomputable def ZbM.f (l0:List Int):Option Int:=denF ZbM.E ZbM.fn ZbM.enc (l0,())
noncomputable def ZbM.l0 (x0:List Int) (x3:Int) (x4:Int):Option Int:=denAt ZbM.E ZbM.fn ZbM.enc [1,1,0,1,0] { fr:=[(0,.lf (.sl (.int .i64) x0)),(3,.lf (.int .i64 x3)),(4,.lf (.int .i64 x4))],ob:=[],nx:=0 }
theorem ZbM.f_eq (l0:List Int):ZbM.f l0=ZbM.l0 l0 0 0:=by kernel_rfl
theorem ZbM.l0_eq (x0:List Int) (x3:Int) (x4:Int):ZbM.l0 x0 x3 x4=if x4 < (x0.length:Int)then(if 0≤x4 then(if x4 < (x0.length:Int)then(ZbM.l0 x0 (wrapI (x3+(rd x0 x4))) (wrapI (x4+1)))else none)else none)else(some x3):=(Zv _ _ _ _).trans (by kernel_rfl)
noncomputable def ZbM.con:Con:=⟨ZbM.fn.ins,ZbM.fn.outs,Int,fun x=>ZbM.f x.1,fun r=>((r,()),(()))⟩
theorem ZbM.valid:Valid Tryz.prog 36 ZbM.con:=fnV ZbM.fn ZbM.E ZbM.enc ⟨ttOk,Zaq⟩ Tryz.func36
end Go.Proofs.YthmcpmnhdbeahaaGreat.P
namespace Go.Proofs.YthmcpmnhdbeahaaGreat.P
open Go Go.RowKit Go.Proofs.YthmcpmnhdbeahaaGreat.D
noncomputable def ZaU.E:Env:={ tt:=TT,con:=[],frz:=[],rows:=[],live:=[(3,[3,6,7])],n:=16,pin:=0,nils:=[] }
noncomputable def ZaU.fn:D.Fn:={ body:=Tryz.f138.body.getD .skip,res:=Tryz.f138.results.toList,ins:=[.one (.v (.int .i64))],outs:=[.one (.own 2 true (.int .i64))] }
def ZaU.enc (y:lsd (flats ZaU.fn.outs)×lsd (ios ZaU.fn.ins)):(List Int):=y.1.1
noncomputable def ZaU.f (a0:Int):Option (List Int):=denF ZaU.E ZaU.fn ZaU.enc (a0,())
noncomputable def ZaU.l0 (x6:Int) (x7:Int) (r0:List Int):Option (List Int):=denAt ZaU.E ZaU.fn ZaU.enc [1,1,0,1,0] { fr:=[(3,.lf (.own 0)),(6,.lf (.int .i64 x6)),(7,.lf (.int .i64 x7))],ob:=[(0,.row 2 true (.int .i64) r0)],nx:=1 }
theorem ZaU.f_eq (a0:Int):ZaU.f a0=ZaU.l0 a0 0 ([]:List Int):=by kernel_rfl
theorem ZaU.l0_eq (x6:Int) (x7:Int) (r0:List Int):ZaU.l0 x6 x7 r0=if x7 < x6 then(if r0.length+([x7]:List Int).length≤17592186044416 then(ZaU.l0 x6 (wrapI (x7+1)) (r0++([x7]:List Int)))else none)else(some r0):=(Zv _ _ _ _).trans (by kernel_rfl)
noncomputable def ZaU.con:Con:=⟨ZaU.fn.ins,ZaU.fn.outs,(List Int),fun x=>ZaU.f x.1,fun r=>((r,()),(()))⟩
theorem ZaU.valid:Valid Tryz.prog 138 ZaU.con:=fnV ZaU.fn ZaU.E ZaU.enc ⟨ttOk,Zaq⟩ Tryz.func138
end Go.Proofs.YthmcpmnhdbeahaaGreat.P
namespace Go.Proofs.YthmcpmnhdbeahaaGreat.P
open Go Go.RowKit Go.Proofs.YthmcpmnhdbeahaaGreat.D
noncomputable def Zi.E:Env:={ tt:=TT,con:=[(219,Zh.con)],frz:=[],rows:=[],live:=[(5,[0,1,5,6])],n:=42,pin:=0,nils:=[] }
noncomputable def Zi.fn:D.Fn:={ body:=Tryz.f145.body.getD .skip,res:=Tryz.f145.results.toList,ins:=[.eat 2 true (.int .i64),.one (.fn [(.int .i64)] .bool)],outs:=[.one (.own 2 true (.int .i64))] }
def Zi.enc (y:lsd (flats Zi.fn.outs)×lsd (ios Zi.fn.ins)):(List Int):=y.1.1
noncomputable def Zi.f (l0:List Int) (f1:Int→Option Bool):Option (List Int):=denF Zi.E Zi.fn Zi.enc (l0,fun x=>f1 x.1,())
noncomputable def Zi.l0 (fx1:Int→Option Bool) (x5:Int) (x6:Int) (r0:List Int):Option (List Int):=denAt Zi.E Zi.fn Zi.enc [1,1,1,0,1,0] { fr:=[(0,.lf (.own 0)),(1,.lf (.fn [(.int .i64)] .bool (fun x=>fx1 x.1))),(5,.lf (.int .i64 x5)),(6,.lf (.int .i64 x6))],ob:=[(0,.row 2 true (.int .i64) r0)],nx:=1 }
theorem Zi.f_eq (l0:List Int) (f1:Int→Option Bool):Zi.f l0 f1=(Zh.f l0 (fun z0=>(f1 z0).map fun z=>z)).bind fun t10=>if t10=(-1)then(some l0)else(Zi.l0 f1 t10 (wrapI (t10+1)) l0):=by kernel_rfl
theorem Zi.l0_eq (fx1:Int→Option Bool) (x5:Int) (x6:Int) (r0:List Int):Zi.l0 fx1 x5 x6 r0=if x6 < (r0.length:Int)then(if 0≤x6 then(if x6 < (r0.length:Int)then(if 0≤x6 then(if x6 < (r0.length:Int)then((fx1 (rd r0 x6)).bind fun t28=>if t28=true then(Zi.l0 fx1 x5 (wrapI (x6+1)) r0)else(if 0≤x5 then(if x5 < (r0.length:Int)then(if 0≤x5 then(if x5 < (r0.length:Int)then(Zi.l0 fx1 (wrapI (x5+1)) (wrapI (x6+1)) (r0.set (x5:Int).toNat (rd r0 x6)))else none)else none)else none)else none))else none)else none)else none)else none)else(if 0 < (r0.length:Int)then(if 0≤x5 then(if x5≤(r0.length:Int)then(if 0 < ((r0.take ((x5:Int).toNat)++List.replicate (r0.length - ((x5:Int).toNat)) 0).length:Int)then(if 0≤x5 then(if x5≤((r0.take ((x5:Int).toNat)++List.replicate (r0.length - ((x5:Int).toNat)) 0).length:Int)then(some ((r0.take ((x5:Int).toNat)++List.replicate (r0.length - ((x5:Int).toNat)) 0).take (x5:Int).toNat))else none)else none)else none)else none)else none)else none):=(Zv _ _ _ _).trans (by kernel_rfl)
noncomputable def Zi.con:Con:=⟨Zi.fn.ins,Zi.fn.outs,(List Int),fun x=>Zi.f x.1 (fun z0=>x.2.1 (z0,())),fun r=>((r,()),(()))⟩
theorem Zi.valid:Valid Tryz.prog 145 Zi.con:=fnV Zi.fn Zi.E Zi.enc ⟨ttOk,(Zs Zh.valid Zaq)⟩ Tryz.func145
end Go.Proofs.YthmcpmnhdbeahaaGreat.P
namespace Go.Proofs.YthmcpmnhdbeahaaGreat.P
open Go Go.RowKit Go.Proofs.YthmcpmnhdbeahaaGreat.D
noncomputable def ZaP.E:Env:={ tt:=TT,con:=[],frz:=[],rows:=[],live:=[],n:=8,pin:=0,nils:=[] }
noncomputable def ZaP.fn:D.Fn:={ body:=Tryz.f188.body.getD .skip,res:=Tryz.f188.results.toList,ins:=[.one (.v (.int .i64)),.ptr true 100 [.fn [(.int .i64)] .bool]],outs:=[.one (.v .bool)] }
def ZaP.enc (y:lsd (flats ZaP.fn.outs)×lsd (ios ZaP.fn.ins)):Bool:=y.1.1
noncomputable def ZaP.f (a0:Int) (f1:Int→Option Bool):Option Bool:=denF ZaP.E ZaP.fn ZaP.enc (a0,fun x=>f1 x.1,())
theorem ZaP.f_eq (a0:Int) (f1:Int→Option Bool):ZaP.f a0 f1=(f1 a0).bind fun t6=>some (!decide (t6=true)):=by kernel_rfl
noncomputable def ZaP.con:Con:=⟨ZaP.fn.ins,ZaP.fn.outs,Bool,fun x=>ZaP.f x.1 (fun z0=>x.2.1 (z0,())),fun r=>((r,()),(()))⟩
theorem ZaP.valid:Valid Tryz.prog 188 ZaP.con:=fnV ZaP.fn ZaP.E ZaP.enc ⟨ttOk,Zaq⟩ Tryz.func188
end Go.Proofs.YthmcpmnhdbeahaaGreat.P
namespace Go.Proofs.YthmcpmnhdbeahaaGreat.P
open Go Go.RowKit Go.Proofs.YthmcpmnhdbeahaaGreat.D
noncomputable def Za7.E:Env:={ tt:=TT,con:=[(139,Zan.con),(138,ZaU.con),(145,Zi.con),(188,ZaP.con)],frz:=[],rows:=[],live:=[],n:=10,pin:=0,nils:=[] }
noncomputable def Za7.fn:D.Fn:={ body:=Tryz.f120.body.getD .skip,res:=Tryz.f120.results.toList,ins:=[.agg [.v (.sl 27 (.sl 2 (.int .i64)))],.one (.fn [(.int .i64)] .bool)],outs:=[.one (.own 2 true (.int .i64))] }
def Za7.enc (y:lsd (flats Za7.fn.outs)×lsd (ios Za7.fn.ins)):(List Int):=y.1.1
noncomputable def Za7.f (l0_0:List (List Int)) (f1:Int→Option Bool):Option (List Int):=denF Za7.E Za7.fn Za7.enc (l0_0,fun x=>f1 x.1,())
theorem Za7.f_eq (l0_0:List (List Int)) (f1:Int→Option Bool):Za7.f l0_0 f1=(Zan.f l0_0).bind fun t6=>(ZaU.f t6).bind fun t7=>(Zi.f t7 (fun z0=>(ZaP.f z0 (fun u0=>(f1 u0).map fun z=>z)).map fun z=>z)).bind fun t9=>some t9:=by kernel_rfl
noncomputable def Za7.con:Con:=⟨Za7.fn.ins,Za7.fn.outs,(List Int),fun x=>Za7.f x.1 (fun z0=>x.2.1 (z0,())),fun r=>((r,()),(()))⟩
theorem Za7.valid:Valid Tryz.prog 120 Za7.con:=fnV Za7.fn Za7.E Za7.enc ⟨ttOk,(Zs Zan.valid (Zs ZaU.valid (Zs Zi.valid (Zs ZaP.valid Zaq))))⟩ Tryz.func120
end Go.Proofs.YthmcpmnhdbeahaaGreat.P
namespace Go.Proofs.YthmcpmnhdbeahaaGreat.P
open Go Go.RowKit Go.Proofs.YthmcpmnhdbeahaaGreat.D
noncomputable def Z4.E:Env:={ tt:=TT,con:=[],frz:=[],rows:=[],live:=[],n:=9,pin:=0,nils:=[] }
noncomputable def Z4.fn:D.Fn:={ body:=Tryz.f121.body.getD .skip,res:=Tryz.f121.results.toList,ins:=[.one (.v (.int .i64)),.ptr true 27 [.v (.sl 2 (.int .i64))]],outs:=[.one (.v .bool)] }
def Z4.enc (y:lsd (flats Z4.fn.outs)×lsd (ios Z4.fn.ins)):Bool:=y.1.1
noncomputable def Z4.f (a0:Int) (l1:List Int):Option Bool:=denF Z4.E Z4.fn Z4.enc (a0,l1,())
theorem Z4.f_eq (a0:Int) (l1:List Int):Z4.f a0 l1=if 0≤a0 then(if a0 < (l1.length:Int)then(some (decide ((rd l1 a0)=0)))else none)else none:=by kernel_rfl
noncomputable def Z4.con:Con:=⟨Z4.fn.ins,Z4.fn.outs,Bool,fun x=>Z4.f x.1 x.2.1,fun r=>((r,()),(()))⟩
theorem Z4.valid:Valid Tryz.prog 121 Z4.con:=fnV Z4.fn Z4.E Z4.enc ⟨ttOk,Zaq⟩ Tryz.func121
end Go.Proofs.YthmcpmnhdbeahaaGreat.P
namespace Go.Proofs.YthmcpmnhdbeahaaGreat.P
open Go Go.RowKit Go.Proofs.YthmcpmnhdbeahaaGreat.D
noncomputable def Zak.E:Env:={ tt:=TT,con:=[(89,ZaN.con),(120,Za7.con),(121,Z4.con)],frz:=[],rows:=[],live:=[],n:=19,pin:=0,nils:=[] }
noncomputable def Zak.fn:D.Fn:={ body:=Tryz.f37.body.getD .skip,res:=Tryz.f37.results.toList,ins:=[.agg [.v (.sl 27 (.sl 2 (.int .i64)))],.agg [.v (.int .i64),.v (.sl 2 (.int .i64))],.one (.v (.sl 2 (.int .i64)))],outs:=[.one (.own 2 true (.int .i64)),.one (.v (.int .i64))] }
def Zak.enc (y:lsd (flats Zak.fn.outs)×lsd (ios Zak.fn.ins)):(List Int)×Int:=(y.1.1,y.1.2.1)
noncomputable def Zak.f (l0_0:List (List Int)) (a1_0:Int) (l1_1:List Int) (l2:List Int):Option ((List Int)×Int):=denF Zak.E Zak.fn Zak.enc (l0_0,a1_0,l1_1,l2,())
theorem Zak.f_eq (l0_0:List (List Int)) (a1_0:Int) (l1_1:List Int) (l2:List Int):Zak.f l0_0 a1_0 l1_1 l2=(ZaN.f l0_0 a1_0 l1_1 l2).bind fun t12=>if t12=0 then((Za7.f l0_0 (fun z0=>(Z4.f z0 l2).map fun z=>z)).bind fun t18=>some (t18,0))else(some (([]:List Int),t12)):=by kernel_rfl
noncomputable def Zak.con:Con:=⟨Zak.fn.ins,Zak.fn.outs,(List Int)×Int,fun x=>Zak.f x.1 x.2.1 x.2.2.1 x.2.2.2.1,fun r=>((r.1,r.2,()),(()))⟩
theorem Zak.valid:Valid Tryz.prog 37 Zak.con:=fnV Zak.fn Zak.E Zak.enc ⟨ttOk,(Zs ZaN.valid (Zs Za7.valid (Zs Z4.valid Zaq)))⟩ Tryz.func37
end Go.Proofs.YthmcpmnhdbeahaaGreat.P
namespace Go.Proofs.YthmcpmnhdbeahaaGreat.P
open Go Go.RowKit Go.Proofs.YthmcpmnhdbeahaaGreat.D
noncomputable def Zaj.E:Env:={ tt:=TT,con:=[(139,Zan.con),(93,Za3.con)],frz:=[],rows:=[],live:=[(2,[1,2,7,8,9])],n:=30,pin:=0,nils:=[] }
noncomputable def Zaj.fn:D.Fn:={ body:=Tryz.f189.body.getD .skip,res:=Tryz.f189.results.toList,ins:=[.agg [.v (.sl 27 (.sl 2 (.int .i64)))],.one (.v (.sl 2 (.int .i64)))],outs:=[.one (.v .bool)] }
def Zaj.enc (y:lsd (flats Zaj.fn.outs)×lsd (ios Zaj.fn.ins)):Bool:=y.1.1
noncomputable def Zaj.f (l0_0:List (List Int)) (l1:List Int):Option Bool:=denF Zaj.E Zaj.fn Zaj.enc (l0_0,l1,())
noncomputable def Zaj.l0 (x1:List Int) (x7:List Int) (x8:Int) (x9:Int) (b0_0:List (List Int)):Option Bool:=denAt Zaj.E Zaj.fn Zaj.enc [1,0,1,0] { fr:=[(1,.lf (.sl (.int .i64) x1)),(2,.lf (.box 0 0)),(7,.lf (.sl (.int .i64) x7)),(8,.lf (.int .i64 x8)),(9,.lf (.int .i64 x9))],ob:=[(0,.box 26 false [.sl (.sl 2 (.int .i64)) b0_0])],nx:=1 }
theorem Zaj.f_eq (l0_0:List (List Int)) (l1:List Int):Zaj.f l0_0 l1=Zaj.l0 l1 l1 (l1.length:Int) 0 l0_0:=by kernel_rfl
theorem Zaj.l0_eq (x1:List Int) (x7:List Int) (x8:Int) (x9:Int) (b0_0:List (List Int)):Zaj.l0 x1 x7 x8 x9 b0_0=if x9 < x8 then(if 0≤x9 then(if x9 < (x7.length:Int)then(if x9 > 0 then(if 0≤wrapI (x9 - 1)then(if wrapI (x9 - 1) < (x1.length:Int)then(if(rd x7 x9)≤(rd x1 (wrapI (x9 - 1)))then(some false)else(Zaj.l0 x1 x7 x8 (wrapI (x9+1)) b0_0))else none)else none)else(Zaj.l0 x1 x7 x8 (wrapI (x9+1)) b0_0))else none)else none)else((Zan.f b0_0).bind fun t27=>(Za3.f t27 x1).bind fun t29=>some (decide (t29=true))):=(Zv _ _ _ _).trans (by kernel_rfl)
noncomputable def Zaj.con:Con:=⟨Zaj.fn.ins,Zaj.fn.outs,Bool,fun x=>Zaj.f x.1 x.2.1,fun r=>((r,()),(()))⟩
theorem Zaj.valid:Valid Tryz.prog 189 Zaj.con:=fnV Zaj.fn Zaj.E Zaj.enc ⟨ttOk,(Zs Zan.valid (Zs Za3.valid Zaq))⟩ Tryz.func189
end Go.Proofs.YthmcpmnhdbeahaaGreat.P
namespace Go.Proofs.YthmcpmnhdbeahaaGreat.P
open Go Go.RowKit Go.Proofs.YthmcpmnhdbeahaaGreat.D
noncomputable def ZbH.E:Env:={ tt:=TT,con:=[(162,ZI.con),(189,Zaj.con)],frz:=[],rows:=[],live:=[],n:=14,pin:=0,nils:=[] }
noncomputable def ZbH.fn:D.Fn:={ body:=Tryz.f122.body.getD .skip,res:=Tryz.f122.results.toList,ins:=[.agg [.v (.sl 27 (.sl 2 (.int .i64)))],.one (.v (.sl 2 (.int .i64)))],outs:=[.one (.v (.int .i64))] }
def ZbH.enc (y:lsd (flats ZbH.fn.outs)×lsd (ios ZbH.fn.ins)):Int:=y.1.1
noncomputable def ZbH.f (l0_0:List (List Int)) (l1:List Int):Option Int:=denF ZbH.E ZbH.fn ZbH.enc (l0_0,l1,())
theorem ZbH.f_eq (l0_0:List (List Int)) (l1:List Int):ZbH.f l0_0 l1=(ZI.f l0_0).bind fun t7=>if t7=true then((Zaj.f l0_0 l1).bind fun t12=>if t12=true then(some 0)else(some 2))else(some 1):=by kernel_rfl
noncomputable def ZbH.con:Con:=⟨ZbH.fn.ins,ZbH.fn.outs,Int,fun x=>ZbH.f x.1 x.2.1,fun r=>((r,()),(()))⟩
theorem ZbH.valid:Valid Tryz.prog 122 ZbH.con:=fnV ZbH.fn ZbH.E ZbH.enc ⟨ttOk,(Zs ZI.valid (Zs Zaj.valid Zaq))⟩ Tryz.func122
end Go.Proofs.YthmcpmnhdbeahaaGreat.P
namespace Go.Proofs.YthmcpmnhdbeahaaGreat.P
open Go Go.RowKit Go.Proofs.YthmcpmnhdbeahaaGreat.D
noncomputable def Zbn.E:Env:={ tt:=TT,con:=[(274,ZaH.con)],frz:=[],rows:=[],live:=[],n:=17,pin:=0,nils:=[] }
noncomputable def Zbn.fn:D.Fn:={ body:=Tryz.f239.body.getD .skip,res:=Tryz.f239.results.toList,ins:=[.one (.v (.int .i64)),.one (.v (.int .i64))],outs:=[.one (.v .bool)] }
def Zbn.enc (y:lsd (flats Zbn.fn.outs)×lsd (ios Zbn.fn.ins)):Bool:=y.1.1
noncomputable def Zbn.f (a0:Int) (a1:Int):Option Bool:=denF Zbn.E Zbn.fn Zbn.enc (a0,a1,())
theorem Zbn.f_eq (a0:Int) (a1:Int):Zbn.f a0 a1=(ZaH.f a0).bind fun t6=>if t6=true then((ZaH.f a1).bind fun t9=>if t9=true then(some (decide (a0 < a1)))else(some true))else(some (decide (a0 < a1))):=by kernel_rfl
noncomputable def Zbn.con:Con:=⟨Zbn.fn.ins,Zbn.fn.outs,Bool,fun x=>Zbn.f x.1 x.2.1,fun r=>((r,()),(()))⟩
theorem Zbn.valid:Valid Tryz.prog 239 Zbn.con:=fnV Zbn.fn Zbn.E Zbn.enc ⟨ttOk,(Zs ZaH.valid Zaq)⟩ Tryz.func239
end Go.Proofs.YthmcpmnhdbeahaaGreat.P
namespace Go.Proofs.YthmcpmnhdbeahaaGreat.P
open Go Go.RowKit Go.Proofs.YthmcpmnhdbeahaaGreat.D
noncomputable def Zj.E:Env:={ tt:=TT,con:=[(239,Zbn.con)],frz:=[],rows:=[],live:=[(1,[0,1,2,6]),(4,[0,1,2,6,7])],n:=49,pin:=1,nils:=[] }
noncomputable def Zj.fn:D.Fn:={ body:=Tryz.f233.body.getD .skip,res:=Tryz.f233.results.toList,ins:=[.one (.own 2 true (.int .i64)),.one (.v (.int .i64)),.one (.v (.int .i64))],outs:=[] }
def Zj.enc (y:lsd (flats Zj.fn.outs)×lsd (ios Zj.fn.ins)):(List Int):=y.2.1
noncomputable def Zj.f (l0:List Int) (a1:Int) (a2:Int):Option (List Int):=denF Zj.E Zj.fn Zj.enc (l0,a1,a2,())
noncomputable def Zj.l0 (x1:Int) (x2:Int) (x6:Int) (r0:List Int):Option (List Int):=denAt Zj.E Zj.fn Zj.enc [1,0] { fr:=[(0,.lf (.own 0)),(1,.lf (.int .i64 x1)),(2,.lf (.int .i64 x2)),(6,.lf (.int .i64 x6))],ob:=[(0,.row 2 true (.int .i64) r0)],nx:=1 }
noncomputable def Zj.l1 (x1:Int) (x2:Int) (x6:Int) (x7:Int) (r0:List Int):Option (List Int):=denAt Zj.E Zj.fn Zj.enc [1,0,0,1,0,0,1,0] { fr:=[(0,.lf (.own 0)),(1,.lf (.int .i64 x1)),(2,.lf (.int .i64 x2)),(6,.lf (.int .i64 x6)),(7,.lf (.int .i64 x7))],ob:=[(0,.row 2 true (.int .i64) r0)],nx:=1 }
theorem Zj.f_eq (l0:List Int) (a1:Int) (a2:Int):Zj.f l0 a1 a2=Zj.l0 a1 a2 (wrapI (a1+1)) l0:=by kernel_rfl
theorem Zj.l0_eq (x1:Int) (x2:Int) (x6:Int) (r0:List Int):Zj.l0 x1 x2 x6 r0=if x6 < x2 then(Zj.l1 x1 x2 x6 x6 r0)else(some r0):=(Zv _ _ _ _).trans (by kernel_rfl)
theorem Zj.l1_eq (x1:Int) (x2:Int) (x6:Int) (x7:Int) (r0:List Int):Zj.l1 x1 x2 x6 x7 r0=if x7 > x1 then(if 0≤x7 then(if x7 < (r0.length:Int)then(if 0≤x7 then(if x7 < (r0.length:Int)then(if 0≤wrapI (x7 - 1)then(if wrapI (x7 - 1) < (r0.length:Int)then(if 0≤wrapI (x7 - 1)then(if wrapI (x7 - 1) < (r0.length:Int)then((Zbn.f (rd r0 x7) (rd r0 (wrapI (x7 - 1)))).bind fun t29=>if t29=true then(if 0≤wrapI (x7 - 1)then(if wrapI (x7 - 1) < (r0.length:Int)then(if 0≤wrapI (x7 - 1)then(if wrapI (x7 - 1) < (r0.length:Int)then(if 0≤x7 then(if x7 < (r0.length:Int)then(if 0≤x7 then(if x7 < (r0.length:Int)then(if 0≤x7 then(if x7 < (r0.length:Int)then(if 0≤x7 then(if x7 < (r0.length:Int)then(if 0≤wrapI (x7 - 1)then(if wrapI (x7 - 1) < ((r0.set (x7:Int).toNat (rd r0 (wrapI (x7 - 1)))).length:Int)then(if 0≤wrapI (x7 - 1)then(if wrapI (x7 - 1) < ((r0.set (x7:Int).toNat (rd r0 (wrapI (x7 - 1)))).length:Int)then(Zj.l1 x1 x2 x6 (wrapI (x7 - 1)) ((r0.set (x7:Int).toNat (rd r0 (wrapI (x7 - 1)))).set (wrapI (x7 - 1):Int).toNat (rd r0 x7)))else none)else none)else none)else none)else none)else none)else none)else none)else none)else none)else none)else none)else none)else none)else none)else none)else(Zj.l0 x1 x2 (wrapI (x6+1)) r0))else none)else none)else none)else none)else none)else none)else none)else none)else(Zj.l0 x1 x2 (wrapI (x6+1)) r0):=(Zv _ _ _ _).trans (by kernel_rfl)
noncomputable def Zj.con:Con:=⟨Zj.fn.ins,Zj.fn.outs,(List Int),fun x=>Zj.f x.1 x.2.1 x.2.2.1,fun r=>((()),(r,()))⟩
theorem Zj.valid:Valid Tryz.prog 233 Zj.con:=fnV Zj.fn Zj.E Zj.enc ⟨ttOk,(Zs Zbn.valid Zaq)⟩ Tryz.func233
end Go.Proofs.YthmcpmnhdbeahaaGreat.P
namespace Go.Proofs.YthmcpmnhdbeahaaGreat.P
open Go Go.RowKit Go.Proofs.YthmcpmnhdbeahaaGreat.D
noncomputable def ZB.E:Env:={ tt:=TT,con:=[(233,Zj.con)],frz:=[],rows:=[],live:=[(2,[0,1,2,3,8,9])],n:=134,pin:=1,nils:=[8,9] }
noncomputable def ZB.fn:D.Fn:={ body:=Tryz.f176.body.getD .skip,res:=Tryz.f176.results.toList,ins:=[.one (.own 2 true (.int .i64)),.one (.v (.int .i64)),.one (.v (.int .i64)),.one (.v (.int .i64))],outs:=[] }
def ZB.enc (y:lsd (flats ZB.fn.outs)×lsd (ios ZB.fn.ins)):(List Int):=y.2.1
noncomputable def ZB.f (l0:List Int) (a1:Int) (a2:Int) (a3:Int):Option (List Int):=denF ZB.E ZB.fn ZB.enc (l0,a1,a2,a3,())
noncomputable def ZB.l0 (x1:Int) (x2:Int) (x3:Int) (x8:Bool) (x9:Bool) (r0:List Int):Option (List Int):=denAt ZB.E ZB.fn ZB.enc [1,1,0] { fr:=[(0,.lf (.own 0)),(1,.lf (.int .i64 x1)),(2,.lf (.int .i64 x2)),(3,.lf (.int .i64 x3)),(8,.lf (Zd9 x8)),(9,.lf (Zd9 x9))],ob:=[(0,.row 2 true (.int .i64) r0)],nx:=1 }
theorem ZB.f_eq (l0:List Int) (a1:Int) (a2:Int) (a3:Int):ZB.f l0 a1 a2 a3=ZB.l0 a1 a2 a3 true true l0:=by kernel_rfl
theorem ZB.l0_eq (x1:Int) (x2:Int) (x3:Int) (x8:Bool) (x9:Bool) (r0:List Int):ZB.l0 x1 x2 x3 x8 x9 r0=if(wrapI (x2 - x1))≤12 then((Zj.f r0 x1 x2).bind fun t27=>some t27)else(if x3=0 then none else(if x8=true then none else none)):=(Zv _ _ _ _).trans (by kernel_rfl)
noncomputable def ZB.con:Con:=⟨ZB.fn.ins,ZB.fn.outs,(List Int),fun x=>ZB.f x.1 x.2.1 x.2.2.1 x.2.2.2.1,fun r=>((()),(r,()))⟩
theorem ZB.valid:Valid Tryz.prog 176 ZB.con:=fnV ZB.fn ZB.E ZB.enc ⟨ttOk,(Zs Zj.valid Zaq)⟩ Tryz.func176
end Go.Proofs.YthmcpmnhdbeahaaGreat.P
namespace Go.Proofs.YthmcpmnhdbeahaaGreat.P
open Go Go.RowKit Go.Proofs.YthmcpmnhdbeahaaGreat.D
noncomputable def bits_Len.f (a0:Int):Option Int:=if 0≤a0∧a0≤18446744073709551615 then some (Lib.bitLen a0.toNat:Int)else none
noncomputable def bits_Len.con:Con:=⟨[.one (.v (.int .u64))],[.one (.v (.int .i64))],Int,fun x=>bits_Len.f x.1,fun r=>((r,()),(()))⟩
theorem bits_Len.valid:Valid Tryz.prog 177 bits_Len.con:=ZgD ⟨_,Tryz.func177,by kernel_rfl,by kernel_rfl⟩ fun x y w h=>by
 unfold bits_Len.f at h
 split at h
 ·
  cases h
  exact P.Tryz.bits_Len x w (by omega) (by omega)
 ·
  cases h
end Go.Proofs.YthmcpmnhdbeahaaGreat.P
namespace Go.Proofs.YthmcpmnhdbeahaaGreat.P
open Go Go.RowKit Go.Proofs.YthmcpmnhdbeahaaGreat.D
noncomputable def ZaS.E:Env:={ tt:=TT,con:=[(177,bits_Len.con),(176,ZB.con)],frz:=[],rows:=[],live:=[],n:=11,pin:=1,nils:=[] }
noncomputable def ZaS.fn:D.Fn:={ body:=Tryz.f96.body.getD .skip,res:=Tryz.f96.results.toList,ins:=[.one (.own 2 true (.int .i64))],outs:=[] }
def ZaS.enc (y:lsd (flats ZaS.fn.outs)×lsd (ios ZaS.fn.ins)):(List Int):=y.2.1
noncomputable def ZaS.f (l0:List Int):Option (List Int):=denF ZaS.E ZaS.fn ZaS.enc (l0,())
theorem ZaS.f_eq (l0:List Int):ZaS.f l0=(bits_Len.f (wr .u64 (l0.length:Int))).bind fun t9=>(ZB.f l0 0 (l0.length:Int) t9).bind fun t10=>some t10:=by kernel_rfl
noncomputable def ZaS.con:Con:=⟨ZaS.fn.ins,ZaS.fn.outs,(List Int),fun x=>ZaS.f x.1,fun r=>((()),(r,()))⟩
theorem ZaS.valid:Valid Tryz.prog 96 ZaS.con:=fnV ZaS.fn ZaS.E ZaS.enc ⟨ttOk,(Zs bits_Len.valid (Zs ZB.valid Zaq))⟩ Tryz.func96
end Go.Proofs.YthmcpmnhdbeahaaGreat.P
namespace Go.Proofs.YthmcpmnhdbeahaaGreat.P
open Go Go.RowKit Go.Proofs.YthmcpmnhdbeahaaGreat.D
noncomputable def Zx.E:Env:={ tt:=TT,con:=[(96,ZaS.con),(172,ZY.con),(190,Zab.con)],frz:=[],rows:=[],live:=[(3,[1,2,5,6]),(6,[1,2,5,6,17,18,19])],n:=43,pin:=0,nils:=[] }
noncomputable def Zx.fn:D.Fn:={ body:=Tryz.f123.body.getD .skip,res:=Tryz.f123.results.toList,ins:=[.agg [.v (.sl 27 (.sl 2 (.int .i64)))],.one (.v (.sl 2 (.int .i64)))],outs:=[.one (.own 2 true (.int .i64))] }
def Zx.enc (y:lsd (flats Zx.fn.outs)×lsd (ios Zx.fn.ins)):(List Int):=y.1.1
noncomputable def Zx.f (l0_0:List (List Int)) (l1:List Int):Option (List Int):=denF Zx.E Zx.fn Zx.enc (l0_0,l1,())
noncomputable def Zx.l0 (x1:List Int) (x6:Int) (b0_0:List (List Int)) (r1:List Int):Option (List Int):=denAt Zx.E Zx.fn Zx.enc [1,1,0,1,0] { fr:=[(1,.lf (.sl (.int .i64) x1)),(2,.lf (.box 0 0)),(5,.lf (.own 1)),(6,.lf (.int .i64 x6))],ob:=[(0,.box 26 false [.sl (.sl 2 (.int .i64)) b0_0]),(1,.row 2 true (.int .i64) r1)],nx:=2 }
noncomputable def Zx.l1 (x1:List Int) (x6:Int) (x17:List Int) (x18:Int) (x19:Int) (b0_0:List (List Int)) (r1:List Int):Option (List Int):=denAt Zx.E Zx.fn Zx.enc [1,1,0,1,0,0,1,0,0,1,0] { fr:=[(1,.lf (.sl (.int .i64) x1)),(2,.lf (.box 0 0)),(5,.lf (.own 1)),(6,.lf (.int .i64 x6)),(17,.lf (.sl (.int .i64) x17)),(18,.lf (.int .i64 x18)),(19,.lf (.int .i64 x19))],ob:=[(0,.box 26 false [.sl (.sl 2 (.int .i64)) b0_0]),(1,.row 2 true (.int .i64) r1)],nx:=2 }
theorem Zx.f_eq (l0_0:List (List Int)) (l1:List Int):Zx.f l0_0 l1=Zx.l0 l1 0 l0_0 ([0]:List Int):=by kernel_rfl
theorem Zx.l0_eq (x1:List Int) (x6:Int) (b0_0:List (List Int)) (r1:List Int):Zx.l0 x1 x6 b0_0 r1=if x6 < (r1.length:Int)then(Zx.l1 x1 x6 x1 (x1.length:Int) 0 b0_0 r1)else((ZaS.f r1).bind fun t41=>some t41):=(Zv _ _ _ _).trans (by kernel_rfl)
theorem Zx.l1_eq (x1:List Int) (x6:Int) (x17:List Int) (x18:Int) (x19:Int) (b0_0:List (List Int)) (r1:List Int):Zx.l1 x1 x6 x17 x18 x19 b0_0 r1=if x19 < x18 then(if 0≤x19 then(if x19 < (x17.length:Int)then(if 0≤x6 then(if x6 < (r1.length:Int)then(if 0≤x6 then(if x6 < (r1.length:Int)then((ZY.f b0_0 ([rd r1 x6,rd x17 x19]:List Int)).bind fun t30=>(Zab.f r1 t30).bind fun t33=>if t33=true then(Zx.l1 x1 x6 x17 x18 (wrapI (x19+1)) b0_0 r1)else(if r1.length+([t30]:List Int).length≤17592186044416 then(Zx.l1 x1 x6 x17 x18 (wrapI (x19+1)) b0_0 (r1++([t30]:List Int)))else none))else none)else none)else none)else none)else none)else none)else(Zx.l0 x1 (wrapI (x6+1)) b0_0 r1):=(Zv _ _ _ _).trans (by kernel_rfl)
noncomputable def Zx.con:Con:=⟨Zx.fn.ins,Zx.fn.outs,(List Int),fun x=>Zx.f x.1 x.2.1,fun r=>((r,()),(()))⟩
theorem Zx.valid:Valid Tryz.prog 123 Zx.con:=fnV Zx.fn Zx.E Zx.enc ⟨ttOk,(Zs ZaS.valid (Zs ZY.valid (Zs Zab.valid Zaq)))⟩ Tryz.func123
end Go.Proofs.YthmcpmnhdbeahaaGreat.P
namespace Go.Proofs.YthmcpmnhdbeahaaGreat.P
open Go Go.RowKit Go.Proofs.YthmcpmnhdbeahaaGreat.D
noncomputable def Zbb.E:Env:={ tt:=TT,con:=[(122,ZbH.con),(123,Zx.con)],frz:=[],rows:=[],live:=[],n:=16,pin:=0,nils:=[] }
noncomputable def Zbb.fn:D.Fn:={ body:=Tryz.f38.body.getD .skip,res:=Tryz.f38.results.toList,ins:=[.agg [.v (.sl 27 (.sl 2 (.int .i64)))],.one (.v (.sl 2 (.int .i64)))],outs:=[.one (.own 2 true (.int .i64)),.one (.v (.int .i64))] }
def Zbb.enc (y:lsd (flats Zbb.fn.outs)×lsd (ios Zbb.fn.ins)):(List Int)×Int:=(y.1.1,y.1.2.1)
noncomputable def Zbb.f (l0_0:List (List Int)) (l1:List Int):Option ((List Int)×Int):=denF Zbb.E Zbb.fn Zbb.enc (l0_0,l1,())
theorem Zbb.f_eq (l0_0:List (List Int)) (l1:List Int):Zbb.f l0_0 l1=(ZbH.f l0_0 l1).bind fun t9=>if t9=0 then((Zx.f l0_0 l1).bind fun t15=>some (t15,0))else(some (([]:List Int),t9)):=by kernel_rfl
noncomputable def Zbb.con:Con:=⟨Zbb.fn.ins,Zbb.fn.outs,(List Int)×Int,fun x=>Zbb.f x.1 x.2.1,fun r=>((r.1,r.2,()),(()))⟩
theorem Zbb.valid:Valid Tryz.prog 38 Zbb.con:=fnV Zbb.fn Zbb.E Zbb.enc ⟨ttOk,(Zs ZbH.valid (Zs Zx.valid Zaq))⟩ Tryz.func38
end Go.Proofs.YthmcpmnhdbeahaaGreat.P
