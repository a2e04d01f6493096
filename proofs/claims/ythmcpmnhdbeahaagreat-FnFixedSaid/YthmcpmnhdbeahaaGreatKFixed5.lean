/- What the proof of the law Fixed stands on, part 5: words, each Go function's Lean function, and that the Go code comes to its answers; no condition. (Packed by wip/myprint/pack.py out of what the kit's printer wrote, its words among it, partly by our patches of it, and out of texts of this session.) -/
import Derived.Test.YthmcpmnhdbeahaaGreatKFixed3
import Derived.Test.YthmcpmnhdbeahaaGreatKFixed4
set_option linter.unusedVariables false
set_option linter.unusedSimpArgs false
set_option maxRecDepth 100000
namespace Go.Proofs.YthmcpmnhdbeahaaGreat.P
open Go Go.RowKit Go.Proofs.YthmcpmnhdbeahaaGreat.D
noncomputable def Zas.E:Env:={ tt:=TT,con:=[(7,Zbq.con),(62,ZW.con),(63,Zal.con),(64,Zam.con),(16,Z8.con),(65,Zg.con),(66,ZJ.con),(67,ZaL.con),(68,ZaM.con),(69,ZaV.con),(70,Zai.con),(71,Zan.con),(72,ZT.con),(73,ZaP.con),(74,ZN.con),(75,ZK.con),(76,Zz.con),(77,Zag.con),(78,Zy.con),(79,Z6.con),(80,ZF.con),(81,ZaJ.con)],frz:=[],rows:=[],live:=[(37,[3,4,5,6,9,10,13,14,17,18,21,22,32,33])],n:=355,pin:=0,nils:=[] }
noncomputable def Zas.fn:D.Fn:={ body:=Tryz.f6.body.getD .skip,res:=Tryz.f6.results.toList,ins:=[.one (.v (.sl 5 (.int .u8)))],outs:=[.one (.v .bool)] }
def Zas.enc (y:lsd (flats Zas.fn.outs)×lsd (ios Zas.fn.ins)):Bool:=y.1.1
noncomputable def Zas.f (l0:List Int):Option Bool:=denF Zas.E Zas.fn Zas.enc (l0,())
noncomputable def Zas.j0 (x6:Int) (x10:Int) (x13:Int) (x14:Int) (x18:Int) (x22:Int) (x33:Int) (b0_0:List (List Int)) (b1_0:Int) (b1_1:List Int) (r2:List Int) (r3:List Int) (r4:List Int) (b5_0:Int) (r6:List Int) (r7:List Int):Option Bool:=denAt Zas.E Zas.fn Zas.enc [1,1,1,1,1,1,1,1,1,1,1,1,1,1,1,1,1,1,1] { fr:=[(3,.lf (.box 0 0)),(4,.lf (.box 1 0)),(5,.lf (.own 2)),(6,.lf (.int .i64 x6)),(9,.lf (.own 3)),(10,.lf (.int .i64 x10)),(13,.lf (.int .i64 x13)),(14,.lf (.int .i64 x14)),(17,.lf (.own 4)),(18,.lf (.int .i64 x18)),(21,.lf (.box 5 0)),(22,.lf (.int .i64 x22)),(32,.lf (.own 6)),(33,.lf (.int .i64 x33))],ob:=[(0,.box 26 false [.sl (.sl 2 (.int .i64)) b0_0]),(1,.box 29 false [.int .i64 b1_0,.sl (.int .i64) b1_1]),(2,.row 2 true (.int .i64) r2),(3,.row 2 true (.int .i64) r3),(4,.row 2 true (.int .i64) r4),(5,.box 29 false [.int .i64 b5_0,.own 7]),(6,.row 2 true (.int .i64) r6),(7,.row 2 true (.int .i64) r7)],nx:=8 }
theorem Zas.f_eq (l0:List Int):Zas.f l0=(Zbq.f l0).bind fun t47=>if t47=true then(some true)else((ZW.f l0).bind fun t50=>(Zal.f t50.1 t50.2.1 t50.2.2).bind fun t56=>(Zam.f t50.1 t50.2.1 t50.2.2).bind fun t62=>if t56.2=t62.2 then((Z8.f t56.1 t62.1).bind fun t71=>if t71=true then((Zg.f t50.1 t50.2.1 t50.2.2).bind fun t77=>(ZJ.f t50.1 t50.2.1 t50.2.2).bind fun t83=>if t77.2=t83.2 then((Z8.f t77.1 t83.1).bind fun t92=>if t92=true then((ZaL.f t50.1 t50.2.1 t50.2.2).bind fun t98=>(ZaM.f t50.1 t50.2.1 t50.2.2).bind fun t104=>if t98.2=t104.2 then(if t98.1=t104.1 then((ZaV.f t50.1 t50.2.1 t50.2.2).bind fun t118=>(Zai.f t50.1 t50.2.1 t50.2.2).bind fun t124=>if t118.2=t124.2 then((Z8.f t118.1 t124.1).bind fun t133=>if t133=true then((Zan.f t50.1 t50.2.1 t50.2.2).bind fun t139=>(ZT.f t50.1 t50.2.1 t50.2.2).bind fun t145=>if t139.2.2=t145.2.2 then((ZaP.f t139.1 t139.2.1 t145.1 t145.2.1).bind fun t154=>if t154=true then((ZN.f l0).bind fun t159=>(ZK.f t159.1 t159.2.1 t159.2.2.1 t159.2.2.2.1 t159.2.2.2.2).bind fun t167=>(Zz.f t159.1 t159.2.1 t159.2.2.1 t159.2.2.2.1 t159.2.2.2.2).bind fun t174=>if t167.2.2=t174.2.2 then((ZaP.f t167.1 t167.2.1 t174.1 t174.2.1).bind fun t183=>if t183=true then((Zag.f t159.1 t159.2.1 t159.2.2.1 t159.2.2.2.1 t159.2.2.2.2).bind fun t190=>(Zy.f t159.1 t159.2.1 t159.2.2.1 t159.2.2.2.1 t159.2.2.2.2).bind fun t197=>if t190.2=t197.2 then((Z8.f t190.1 t197.1).bind fun t206=>if t206=true then(if t167.2.2=0 then((ZK.f t159.1 t159.2.2.2.1 t159.2.2.2.2 t159.2.1 t159.2.2.1).bind fun t215=>if t215.2.2=0 then((ZaP.f t215.1 t215.2.1 t167.1 t167.2.1).bind fun t223=>if t223=true then(Zas.j0 t56.2 t77.2 t98.1 t98.2 t118.2 t139.2.2 t190.2 t50.1 t50.2.1 t50.2.2 t56.1 t77.1 t118.1 t139.1 t190.1 t139.2.1)else(some false))else(some false))else(Zas.j0 t56.2 t77.2 t98.1 t98.2 t118.2 t139.2.2 t190.2 t50.1 t50.2.1 t50.2.2 t56.1 t77.1 t118.1 t139.1 t190.1 t139.2.1))else(some false))else(some false))else(some false))else(some false))else(some false))else(some false))else(some false))else(some false))else(some false))else(some false))else(some false))else(some false))else(some false))else(some false)):=by kernel_rfl
theorem Zas.j0_eq (x6:Int) (x10:Int) (x13:Int) (x14:Int) (x18:Int) (x22:Int) (x33:Int) (b0_0:List (List Int)) (b1_0:Int) (b1_1:List Int) (r2:List Int) (r3:List Int) (r4:List Int) (b5_0:Int) (r6:List Int) (r7:List Int):Zas.j0 x6 x10 x13 x14 x18 x22 x33 b0_0 b1_0 b1_1 r2 r3 r4 b5_0 r6 r7=if x33=0 then(if(r6.length:Int) < 1 then(some false)else(if 0 < (r6.length:Int)then(if 0 < (r6.length:Int)then(if(rd r6 0)=0 then(if x6=0 then((Zan.f b0_0 b5_0 r7).bind fun t257=>(ZK.f b0_0 b1_0 b1_1 b5_0 r7).bind fun t264=>(Z6.f b0_0 b1_0).bind fun t271=>(ZF.f b0_0 b1_0 b1_1 0).bind fun t277=>if x10=0 then(if x14=0 then(if x18=0 then(if x22=0 then(if(wrapI ((r2.length:Int)*(r3.length:Int)))=b1_0 then((ZaJ.f r2 x13).bind fun t307=>if t307=true then(if(r4.length:Int) > 0 then(if(r4.length:Int)=0 then none else(if(((b0_0.length:Int):Int).tmod (r4.length:Int))=0 then(if t257.2.2=0 then((ZaP.f t257.1 t257.2.1 b1_0 b1_1).bind fun t330=>if t330=true then(if t264.2.2=0 then(if t271.2.2=0 then((ZaP.f t264.1 t264.2.1 t271.1 t271.2.1).bind fun t343=>if t343=true then(if t277.2=0 then(some (decide (t277.1=(r2.length:Int))))else(some false))else(some false))else(some false))else(some false))else(some false))else(some false))else(some false)))else(some false))else(some false))else(some false))else(some false))else(some false))else(some false))else(some false))else(if(r2.length:Int)=0 then(if x10=x6 then(some (decide (x14=x6)))else(some false))else(some false)))else(some false))else none)else none))else(if x6=0 then((Zan.f b0_0 b5_0 r7).bind fun t257=>(ZK.f b0_0 b1_0 b1_1 b5_0 r7).bind fun t264=>(Z6.f b0_0 b1_0).bind fun t271=>(ZF.f b0_0 b1_0 b1_1 0).bind fun t277=>if x10=0 then(if x14=0 then(if x18=0 then(if x22=0 then(if(wrapI ((r2.length:Int)*(r3.length:Int)))=b1_0 then((ZaJ.f r2 x13).bind fun t307=>if t307=true then(if(r4.length:Int) > 0 then(if(r4.length:Int)=0 then none else(if(((b0_0.length:Int):Int).tmod (r4.length:Int))=0 then(if t257.2.2=0 then((ZaP.f t257.1 t257.2.1 b1_0 b1_1).bind fun t330=>if t330=true then(if t264.2.2=0 then(if t271.2.2=0 then((ZaP.f t264.1 t264.2.1 t271.1 t271.2.1).bind fun t343=>if t343=true then(if t277.2=0 then(some (decide (t277.1=(r2.length:Int))))else(some false))else(some false))else(some false))else(some false))else(some false))else(some false))else(some false)))else(some false))else(some false))else(some false))else(some false))else(some false))else(some false))else(some false))else(if(r2.length:Int)=0 then(if x10=x6 then(some (decide (x14=x6)))else(some false))else(some false))):=by kernel_rfl
noncomputable def Zas.con:Con:=⟨Zas.fn.ins,Zas.fn.outs,Bool,fun x=>Zas.f x.1,fun r=>((r,()),(()))⟩
theorem Zas.valid:Valid Tryz.prog 6 Zas.con:=fnV Zas.fn Zas.E Zas.enc ⟨ttOk,(Ze Zbq.valid (Ze ZW.valid (Ze Zal.valid (Ze Zam.valid (Ze Z8.valid (Ze Zg.valid (Ze ZJ.valid (Ze ZaL.valid (Ze ZaM.valid (Ze ZaV.valid (Ze Zai.valid (Ze Zan.valid (Ze ZT.valid (Ze ZaP.valid (Ze ZN.valid (Ze ZK.valid (Ze Zz.valid (Ze Zag.valid (Ze Zy.valid (Ze Z6.valid (Ze ZF.valid (Ze ZaJ.valid Zap))))))))))))))))))))))⟩ Tryz.func6
end Go.Proofs.YthmcpmnhdbeahaaGreat.P
namespace Go.Proofs.YthmcpmnhdbeahaaGreat.P
open Go Go.RowKit Go.Proofs.YthmcpmnhdbeahaaGreat.D
end Go.Proofs.YthmcpmnhdbeahaaGreat.P
namespace Go.Proofs.YthmcpmnhdbeahaaGreat.P
open Go Go.RowKit Go.Proofs.YthmcpmnhdbeahaaGreat.D
noncomputable def Za8.E:Env:={ tt:=TT,con:=[(91,Zay.con)],frz:=[],rows:=[],live:=[(3,[2,7,8,9])],n:=32,pin:=0,nils:=[] }
noncomputable def Za8.fn:D.Fn:={ body:=Tryz.f260.body.getD .skip,res:=Tryz.f260.results.toList,ins:=[.agg [.v (.sl 27 (.sl 2 (.int .i64)))],.one (.v (.int .i64)),.one (.v (.int .i64))],outs:=[.one (.own 2 true (.int .i64))] }
def Za8.enc (y:lsd (flats Za8.fn.outs)×lsd (ios Za8.fn.ins)):(List Int):=y.1.1
noncomputable def Za8.f (l0_0:List (List Int)) (a1:Int) (a2:Int):Option (List Int):=denF Za8.E Za8.fn Za8.enc (l0_0,a1,a2,())
noncomputable def Za8.l0 (x2:Int) (x8:Int) (x9:Int) (r0:List Int):Option (List Int):=denAt Za8.E Za8.fn Za8.enc [1,1,0,1,0] { fr:=[(2,.lf (.int .i64 x2)),(7,.lf (.own 0)),(8,.lf (.int .i64 x8)),(9,.lf (.int .i64 x9))],ob:=[(0,.row 2 true (.int .i64) r0)],nx:=1 }
theorem Za8.f_eq (l0_0:List (List Int)) (a1:Int) (a2:Int):Za8.f l0_0 a1 a2=if a1=a1 then(if 0≤a1 then(if(a1:Int).toNat≤17592186044416 then((Zay.f l0_0).bind fun t13=>Za8.l0 a2 (wrapI (t13 - 1)) (wrapI (a1 - 1)) (List.replicate (a1:Int).toNat (0:Int)))else none)else none)else none:=by kernel_rfl
theorem Za8.l0_eq (x2:Int) (x8:Int) (x9:Int) (r0:List Int):Za8.l0 x2 x8 x9 r0=if x9≥0 then(if x8=0 then none else(if 0≤x9 then(if x9 < (r0.length:Int)then(if 0≤x9 then(if x9 < (r0.length:Int)then(if x8=0 then none else(Za8.l0 (wrapI ((x2:Int).tdiv x8)) x8 (wrapI (x9 - 1)) (r0.set (x9:Int).toNat (wrapI (((x2:Int).tmod x8)+1)))))else none)else none)else none)else none))else(some r0):=(Zt _ _ _ _).trans (by kernel_rfl)
end Go.Proofs.YthmcpmnhdbeahaaGreat.P
namespace Go.Proofs.YthmcpmnhdbeahaaGreat.P
open Go Go.RowKit Go.Proofs.YthmcpmnhdbeahaaGreat.D
end Go.Proofs.YthmcpmnhdbeahaaGreat.P
namespace Go.Proofs.YthmcpmnhdbeahaaGreat.P
open Go Go.RowKit Go.Proofs.YthmcpmnhdbeahaaGreat.D
end Go.Proofs.YthmcpmnhdbeahaaGreat.P
namespace Go.Proofs.YthmcpmnhdbeahaaGreat.P
open Go Go.RowKit Go.Proofs.YthmcpmnhdbeahaaGreat.D
end Go.Proofs.YthmcpmnhdbeahaaGreat.P
namespace Go.Proofs.YthmcpmnhdbeahaaGreat.P
open Go Go.RowKit Go.Proofs.YthmcpmnhdbeahaaGreat.D
end Go.Proofs.YthmcpmnhdbeahaaGreat.P
namespace Go.Proofs.YthmcpmnhdbeahaaGreat.P
open Go Go.RowKit Go.Proofs.YthmcpmnhdbeahaaGreat.D
end Go.Proofs.YthmcpmnhdbeahaaGreat.P
namespace Go.Proofs.YthmcpmnhdbeahaaGreat.P
open Go Go.RowKit Go.Proofs.YthmcpmnhdbeahaaGreat.D
end Go.Proofs.YthmcpmnhdbeahaaGreat.P
namespace Go.Proofs.YthmcpmnhdbeahaaGreat.V
open Go Go.RowKit Go.Proofs.YthmcpmnhdbeahaaGreat.D
theorem w64 {x:Int} (h0 : -9223372036854775808≤x) (h1:x≤9223372036854775807):wrapI x=x:=by unfold wrapI;rw[Zcn];unfold wrap64;omega
theorem wn {j:Nat} (h:j < 4611686018427387904):wrapI ((j:Int)+1)=((j+1:Nat):Int):=by rw[w64 (by omega) (by omega)];omega
theorem ZP {α : Type} {p:Prop} {inst:Decidable p} {a b r : α} (h:p) (k:a=r):(if p then a else b)=r:=by rw[if_pos h];exact k
theorem ZO {α : Type} {p:Prop} {inst:Decidable p} {a b r : α} (h:¬ p) (k:b=r):(if p then a else b)=r:=by rw[if_neg h];exact k
theorem Zq {α β : Type} {c:Option α} {f : α → Option β} {a : α} {r:Option β} (h:c=some a) (k:f a=r):c.bind f=r:=by rw[h];exact k
theorem Zcp:maxLen≤9223372036854775807:=by unfold maxLen;omega
theorem Zbo {n:Nat} (h:n≤9223372036854775807):n≤maxLen:=by unfold maxLen;omega
noncomputable def ite_ {α : Type} (p:Prop) (a b : α) : α := @ite α p (Classical.propDecidable p) a b
theorem ZbG {α : Type} {p:Prop} (h:p) (a b : α):ite_ p a b=a:=by unfold ite_;simp[h]
theorem ZbB {α : Type} {p:Prop} (h:¬ p) (a b : α):ite_ p a b=b:=by unfold ite_;simp[h]
noncomputable def B (p:Prop):Bool := @decide p (Classical.propDecidable p)
theorem B_pos {p:Prop} (h:p):B p=true:=by unfold B;simp[h]
theorem B_neg {p:Prop} (h:¬ p):B p=false:=by unfold B;simp[h]
theorem B_not {p:Prop} (h:¬ p):¬ (B p=true):=by rw[B_neg h];decide
theorem B_iff {p:Prop}:B p=true↔p:=by unfold B;simp
theorem ZbU {p q:Prop} (h:p↔q):B p=B q:=by rw[show p=q from propext h]
theorem Zeq (p:Prop) {inst:Decidable p}:decide p=B p:=by by_cases h:p <;> simp[h,B]
theorem Zk0:B True=true:=B_pos trivial
theorem scan {R:Type} (n:Nat) (L:Int→R) (P:Int→Prop) (bad:R)
  (hs:∀i:Int,0≤i→i < n→(∀j:Int,0≤j→j < i→P j)→(P i→L i=L (i+1))∧(¬ P i→L i=bad)) :
  ((∀j:Int,0≤j→j < n→P j)∧L 0=L n)∨(∃m:Int,0≤m∧m < n∧(∀j:Int,0≤j→j < m→P j)∧¬ P m∧L 0=L m∧L 0=bad):=by
 suffices H:∀d m:Nat,m+d=n→(∀j:Int,0≤j→j < m→P j) →
   ((∀j:Int,0≤j→j < n→P j)∧L m=L n)∨(∃i:Int,0≤i∧i < n∧(∀j:Int,0≤j→j < i→P j)∧¬ P i∧L m=L i∧L m=bad)by
  simpa using H n 0 (by omega) (fun j h0 h1=>by omega)
 intro d
 induction d with
 | zero =>
  intro m hm hp
  have:(m:Int)=n:=by omega
  rw[this]at hp ⊢
  exact .inl ⟨hp,rfl⟩
 | succ d ih =>
  intro m hm hp
  obtain⟨h1,h2⟩:=hs m (by omega) (by omega) hp
  by_cases h:P m
  ·
   have hp' : ∀j:Int,0≤j→j < ((m+1:Nat):Int)→P j:=fun j h0 hj=>by
    by_cases e:j=m
    ·
     rw[e];exact h
    ·
     exact hp j h0 (by omega)
   have:=ih (m+1) (by omega) hp'
   rwa[Int.natCast_add,Int.natCast_one,←h1 h]at this
  ·
   exact .inr ⟨m,by omega,by omega,hp,h,rfl,h2 h⟩
theorem scanB (n:Nat) (L:Int→Option Bool) (P:Int→Prop) (Q:Prop)
  (hs:∀i:Int,0≤i→i < n→(∀j:Int,0≤j→j < i→P j)→(P i→L i=L (i+1))∧(¬ P i→L i=some false))
  (he:(∀j:Int,0≤j→j < n→P j)→L n=some (B Q)):L 0=some (B ((∀j:Int,0≤j→j < n→P j)∧Q)):=by
 rcases scan n L P (some false) hs with ⟨h1,h2⟩|⟨j,h0,h1,_,h2,_,h3⟩
 ·
  rw[ZbU (show((∀j:Int,0≤j→j < n→P j)∧Q)↔Q from⟨fun h=>h.2,fun h=>⟨h1,h⟩⟩),h2]
  exact he h1
 ·
  rw[B_neg fun h=>h2 (h.1 j h0 h1)]
  exact h3
theorem scanT (n:Nat) (L:Int→Option Bool) (P:Int→Prop)
  (hs:∀i:Int,0≤i→i < n→(∀j:Int,0≤j→j < i→P j)→(P i→L i=L (i+1))∧(¬ P i→L i=some false))
  (he:(∀j:Int,0≤j→j < n→P j)→L n=some true):L 0=some (B (∀j:Int,0≤j→j < n→P j)):=by
 have:=scanB n L P True hs (fun h=>by rw[Zk0];exact he h)
 rwa[ZbU (show((∀j:Int,0≤j→j < n→P j)∧True)↔_ from⟨fun h=>h.1,fun h=>⟨h,trivial⟩⟩)]at this
theorem scanI {R:Type} (n:Nat) (L:Int→R) (P:Int→Prop) (bad go:R)
  (hs:∀i:Int,0≤i→i < n→(∀j:Int,0≤j→j < i→P j)→(P i→L i=L (i+1))∧(¬ P i→L i=bad)) (he:(∀j:Int,0≤j→j < n→P j)→L n=go) :
  ((∀j:Int,0≤j→j < n→P j)→L 0=go)∧(¬ (∀j:Int,0≤j→j < n→P j)→L 0=bad):=by
 rcases scan n L P bad hs with ⟨h1,h2⟩|⟨j,h0,h1,_,h2,_,h3⟩
 ·
  exact⟨fun _=>h2.trans (he h1),fun h=>absurd h1 h⟩
 ·
  exact⟨fun h=>absurd (h j h0 h1) h2,fun _=>h3⟩
theorem up {R:Type} (n:Nat) (L:Nat→R) (h:∀i,i < n→L i=L (i+1)):L 0=L n:=by
 suffices H:∀m,m≤n→L 0=L m from H n (Nat.le_refl _)
 intro m
 induction m with
 | zero=>exact fun _=>rfl
 | succ m ih=>exact fun hm=>(ih (by omega)).trans (h m (by omega))
theorem Zlf (xs:List Int) (j:Nat):rd xs (j:Int)=xs.getD j 0:=by simp[rd]
theorem rd_get {xs:List Int} {j:Nat} (h:j < xs.length):rd xs (j:Int)=xs[j]:=by simp[rd,List.getD_eq_getElem?_getD,List.getElem?_eq_getElem h]
theorem rd_at {xs:List Int} {i:Int} (h0:0≤i) (h1:i < xs.length):xs[i.toNat]? = some (rd xs i):=by
 have h:i.toNat < xs.length:=by omega
 simp[rd,List.getD_eq_getElem?_getD,List.getElem?_eq_getElem h]
theorem Zce {xs:List Int} {i:Int} (h0:0≤i) (h1:i < xs.length):rd xs i∈xs:=List.mem_of_getElem? (rd_at h0 h1)
theorem Zhu {xs ys:List Int} (hl:xs.length=ys.length) (h:∀i:Int,0≤i→i < xs.length→rd xs i=rd ys i):xs=ys:=by
 apply List.ext_getElem hl
 intro i h1 h2
 have:=h i (by omega) (by omega)
 simpa [rd,List.getD_eq_getElem?_getD,List.getElem?_eq_getElem h1,List.getElem?_eq_getElem h2] using this
theorem Ze2 {g:List (List Int)} {j:Nat} (h:j < g.length):row g (j:Int)=g[j]:=by simp[row,List.getD_eq_getElem?_getD,List.getElem?_eq_getElem h]
theorem Zjb {g:List (List Int)} {a:Int} (h0:0≤a) (h1:a < g.length):row g a∈g:=by
 have h:a.toNat < g.length:=by omega
 unfold row
 rw[List.getD_eq_getElem?_getD,List.getElem?_eq_getElem h]
 exact List.getElem_mem h
theorem Zg0 {g:List (List Int)} {r:List Int} (h:r∈g):∃i:Int,0≤i∧i < g.length∧row g i=r:=by
 obtain⟨i,hi,rfl⟩:=List.mem_iff_getElem.1 h
 exact⟨i,by omega,by omega,Ze2 hi⟩
def AllIn (n:Int) (xs:List Int):Prop:=∀i:Int,0≤i→i < xs.length→0≤rd xs i∧rd xs i < n
theorem Zif {n x:Int} (h0:0≤x) (h1:x < n):AllIn n [x]:=by
 intro i i0 i1
 have:i=0:=by simp at i1;omega
 subst this;simp[rd, *]
theorem Zig {n x y:Int} (h0:0≤x) (h1:x < n) (h2:0≤y) (h3:y < n):AllIn n [x,y]:=by
 intro i i0 i1
 have:i=0∨i=1:=by simp at i1;omega
 rcases this with rfl|rfl <;> simp[rd, *]
theorem AllIn.mem {n:Int} {xs:List Int} (h:AllIn n xs) {x:Int} (hx:x∈xs):0≤x∧x < n:=by
 obtain⟨i,hi,rfl⟩:=List.mem_iff_getElem.1 hx
 have:=h i (by omega) (by omega)
 rwa[rd_get hi]at this
theorem Zct {n:Int} {xs:List Int} (h:∀x∈xs,0≤x∧x < n):AllIn n xs:=fun i i0 i1=>h _ (Zce i0 i1)
theorem AllIn.drop {n:Int} {xs:List Int} (h:AllIn n xs) (j:Nat):AllIn n (xs.drop j):=Zct fun x hx=>h.mem (List.mem_of_mem_drop hx)
theorem AllIn.take {n:Int} {xs:List Int} (h:AllIn n xs) (j:Nat):AllIn n (xs.take j):=Zct fun x hx=>h.mem (List.mem_of_mem_take hx)
theorem AllIn.append {n:Int} {xs ys:List Int} (h:AllIn n xs) (k:AllIn n ys):AllIn n (xs++ys):=Zct fun x hx=>by
 rcases List.mem_append.1 hx with h' | h'
 ·
  exact h.mem h'
 ·
  exact k.mem h'
theorem Zbz {a m:Int} (h:0≤a):Int.tmod a m=a%m:=Int.tmod_eq_emod_of_nonneg h
theorem Zeb {a m:Int} (h:0≤a):Int.tdiv a m=a / m:=Int.tdiv_eq_ediv_of_nonneg h
end Go.Proofs.YthmcpmnhdbeahaaGreat.V
set_option maxHeartbeats 2000000
set_option maxRecDepth 20000
namespace Go.Proofs.YthmcpmnhdbeahaaGreat.V
open Go.RowKit Go.Proofs.YthmcpmnhdbeahaaGreat.D Go.Proofs.YthmcpmnhdbeahaaGreat.P
theorem areIn (n:Int) (xs:List Int) (hl:xs.length≤maxLen):ZaY.f n xs=some (B (AllIn n xs)):=by
 have hm:=Zcp
 rw[ZaY.f_eq]
 refine scanT xs.length (fun i=>ZaY.l0 n xs (xs.length:Int) i) (fun i=>0≤rd xs i∧rd xs i < n) (fun i h0 h1 _ => ?_) (fun _ => ?_)
 ·
  refine⟨fun h => ?_,fun h => ?_⟩ <;> (rw[ZaY.l0_eq])
  ·
   ((with_reducible repeat (first|refine ZP (by first|assumption|omega|rfl|exact B_pos (by omega)) ?_|refine ZO (by first|assumption|omega|decide|exact B_not (by omega)) ?_|refine Zq (by first|assumption) ?_|dsimp only));first|done|(with_reducible rfl)|simp (disch:=omega) only[w64]|(show False;done))
  ·
   by_cases h2:rd xs i < 0 <;> ((with_reducible repeat (first|refine ZP (by first|assumption|omega|rfl|exact B_pos (by omega)) ?_|refine ZO (by first|assumption|omega|decide|exact B_not (by omega)) ?_|refine Zq (by first|assumption) ?_|dsimp only));first|done|(with_reducible rfl)|simp (disch:=omega) only[w64]|(show False;done))
 ·
  (rw[ZaY.l0_eq])
  ((with_reducible repeat (first|refine ZP (by first|assumption|omega|rfl|exact B_pos (by omega)) ?_|refine ZO (by first|assumption|omega|decide|exact B_not (by omega)) ?_|refine Zq (by first|assumption) ?_|dsimp only));first|done|(with_reducible rfl)|simp (disch:=omega) only[w64]|(show False;done))
theorem index_ (xs:List Int) (x:Int) (hl:xs.length≤maxLen) :
  ((∀i:Int,0≤i→i < xs.length→rd xs i≠x)∧Zn.f xs x=some (-1)) ∨
  ∃i:Int,0≤i∧i < xs.length∧(∀j:Int,0≤j→j < i→rd xs j≠x)∧rd xs i=x∧Zn.f xs x=some i:=by
 have hm:=Zcp
 rw[Zn.f_eq]
 suffices H:∀d m:Nat,m+d=xs.length→(∀j:Int,0≤j→j < m→rd xs j≠x) →
   ((∀i:Int,0≤i→i < xs.length→rd xs i≠x)∧Zn.l0 xs x (xs.length:Int) m=some (-1)) ∨
   ∃i:Int,0≤i∧i < xs.length∧(∀j:Int,0≤j→j < i→rd xs j≠x)∧rd xs i=x∧Zn.l0 xs x (xs.length:Int) m=some i from
  H xs.length 0 (by omega) (fun j h0 h1=>by omega)
 intro d
 induction d with
 | zero =>
  intro m hd hp
  obtain rfl:m=xs.length:=by omega
  refine .inl ⟨hp,?_⟩
  (rw[Zn.l0_eq])
  ((with_reducible repeat (first|refine ZP (by first|assumption|omega|rfl|exact B_pos (by omega)) ?_|refine ZO (by first|assumption|omega|decide|exact B_not (by omega)) ?_|refine Zq (by first|assumption) ?_|dsimp only));first|done|(with_reducible rfl)|simp (disch:=omega) only[w64]|(show False;done))
 | succ d ih =>
  intro m hd hp
  by_cases h2:x=rd xs m
  ·
   refine .inr ⟨m,by omega,by omega,hp,h2.symm,?_⟩
   (rw[Zn.l0_eq])
   ((with_reducible repeat (first|refine ZP (by first|assumption|omega|rfl|exact B_pos (by omega)) ?_|refine ZO (by first|assumption|omega|decide|exact B_not (by omega)) ?_|refine Zq (by first|assumption) ?_|dsimp only));first|done|(with_reducible rfl)|simp (disch:=omega) only[w64]|(show False;done))
  ·
   have st:Zn.l0 xs x (xs.length:Int) m=Zn.l0 xs x (xs.length:Int) ((m+1:Nat):Int):=by
    rw[Int.natCast_add,Int.natCast_one]
    (rw[Zn.l0_eq])
    ((with_reducible repeat (first|refine ZP (by first|assumption|omega|rfl|exact B_pos (by omega)) ?_|refine ZO (by first|assumption|omega|decide|exact B_not (by omega)) ?_|refine Zq (by first|assumption) ?_|dsimp only));first|done|(with_reducible rfl)|simp (disch:=omega) only[w64]|(show False;done))
   rw[st]
   refine ih (m+1) (by omega) fun j k0 k1 => ?_
   by_cases e:j=m
   ·
    rw[e];exact fun h=>h2 h.symm
   ·
    exact hp j k0 (by omega)
theorem Ziy (xs:List Int) (x:Int) (hl:xs.length≤maxLen):ZV.f xs x=some (B (∃i:Int,0≤i∧i < xs.length∧rd xs i=x)):=by
 rw[ZV.f_eq]
 rcases index_ xs x hl with ⟨h,e⟩|⟨i,h0,h1,_,h2,e⟩
 ·
  rw[e,B_neg fun⟨i,h0,h1,h2⟩=>h i h0 h1 h2];rfl
 ·
  rw[e,B_pos ⟨i,h0,h1,h2⟩];simp[h0]
structure Grp (g:List (List Int)):Prop where
 n1:1≤g.length
 n8:g.length≤8
 row:∀a:Int,0≤a→a < g.length→(row g a).length=g.length
 ent:∀a b:Int,0≤a→a < g.length→0≤b→b < g.length→0≤T g a b∧T g a b < g.length
 one:∀a:Int,0≤a→a < g.length→T g 0 a=a
 one' : ∀a:Int,0≤a→a < g.length→T g a 0=a
 assoc:∀a b c:Int,0≤a→a < g.length→0≤b→b < g.length→0≤c→c < g.length→T g (T g a b) c=T g a (T g b c)
 inv:∀a:Int,0≤a→a < g.length→∃b:Int,0≤b∧b < g.length∧T g a b=0
theorem Grp.inv2 {g:List (List Int)} (h:Grp g) {a:Int} (h0:0≤a) (h1:a < g.length):∃b:Int,0≤b∧b < g.length∧T g a b=0∧T g b a=0:=by
 obtain⟨b,b0,b1,hb⟩:=h.inv a h0 h1
 obtain⟨c,c0,c1,hc⟩:=h.inv b b0 b1
 refine⟨b,b0,b1,hb,?_⟩
 have hac:c=a:=by
  have e1:=h.assoc a b c h0 h1 b0 b1 c0 c1
  rw[hb,hc,h.one c c0 c1,h.one' a h0 h1]at e1
  exact e1
 rw[←hac];exact hc
theorem ZhG {g:List (List Int)} (hr:∀r∈g,r.length≤maxLen) {a:Int} (h0:0≤a) (h1:a < g.length):(row g a).length≤maxLen:=hr _ (Zjb h0 h1)
def Tab (g:List (List Int)):Prop:=∀a:Int,0≤a→a < g.length→(row g a).length=g.length∧AllIn g.length (row g a)
def Law (g:List (List Int)) (a:Int):Prop:=T g 0 a=a∧T g a 0=a∧(∃b:Int,0≤b∧b < g.length∧T g a b=0)∧∀b:Int,0≤b→b < g.length→∀c:Int,0≤c→c < g.length→T g (T g a b) c=T g a (T g b c)
theorem ZgV (g:List (List Int)):Grp g↔(1≤g.length∧g.length≤8)∧Tab g∧∀a:Int,0≤a→a < g.length→Law g a:=by
 constructor
 ·
  intro h
  refine⟨⟨h.n1,h.n8⟩,fun a h0 h1=>⟨h.row a h0 h1,fun i i0 i1 => ?_⟩,fun a h0 h1=>⟨h.one a h0 h1,h.one' a h0 h1,h.inv a h0 h1,fun b b0 b1 c c0 c1=>h.assoc a b c h0 h1 b0 b1 c0 c1⟩⟩
  have:=h.row a h0 h1
  exact h.ent a i h0 h1 i0 (by omega)
 ·
  rintro⟨⟨h1,h8⟩,ht,hl⟩
  refine⟨h1,h8,fun a a0 a1=>(ht a a0 a1).1,fun a b a0 a1 b0 b1 => ?_,fun a a0 a1=>(hl a a0 a1).1,fun a a0 a1=>(hl a a0 a1).2.1,fun a b c a0 a1 b0 b1 c0 c1=>(hl a a0 a1).2.2.2 b b0 b1 c c0 c1,fun a a0 a1=>(hl a a0 a1).2.2.1⟩
  have:=(ht a a0 a1).1
  exact(ht a a0 a1).2 b b0 (by omega)
theorem ZgW (g:List (List Int)) (hl:g.length≤maxLen) (hr:∀r∈g,r.length≤maxLen):Zl.f g=some (B (Grp g)):=by
 have hm:=Zcp
 rw[ZbU (ZgV g)]
 (rw[Zl.f_eq])
 by_cases c1:(g.length:Int) < 1∨(g.length:Int) > 8
 ·
  rw[B_neg fun h=>by omega]
  by_cases c2:(g.length:Int) < 1 <;> ((with_reducible repeat (first|refine ZP (by first|assumption|omega|rfl|exact B_pos (by omega)) ?_|refine ZO (by first|assumption|omega|decide|exact B_not (by omega)) ?_|refine Zq (by first|assumption|exact Z7.f_eq _) ?_|dsimp only));first|done|(with_reducible rfl)|simp (disch:=omega) only[w64]|(show False;done))
 rw[ZbU (show((1≤g.length∧g.length≤8)∧Tab g∧∀a:Int,0≤a→a < g.length→Law g a)↔(Tab g∧∀a:Int,0≤a→a < g.length→Law g a)from⟨fun h=>h.2,fun h=>⟨by omega,h⟩⟩)]
 (with_reducible repeat (first|refine ZP (by first|assumption|omega|rfl|exact B_pos (by omega)) ?_|refine ZO (by first|assumption|omega|decide|exact B_not (by omega)) ?_|refine Zq (by first|assumption|exact Z7.f_eq _) ?_|dsimp only))
 refine scanB g.length (fun i=>Zl.l0 (g.length:Int) g (g.length:Int) i g) (fun a=>(row g a).length=g.length∧AllIn g.length (row g a)) _ (fun i h0 h1 _ => ?_) (fun ht => ?_)
 ·
  have ha:=areIn g.length (row g i) (ZhG hr h0 h1)
  refine⟨fun h => ?_,fun h => ?_⟩ <;> (rw[Zl.l0_eq])
  ·
   have h1:=h.1
   rw[B_pos h.2]at ha
   ((with_reducible repeat (first|refine ZP (by first|assumption|omega|rfl|exact B_pos (by omega)) ?_|refine ZO (by first|assumption|omega|decide|exact B_not (by omega)) ?_|refine Zq (by first|assumption) ?_|dsimp only));first|done|(with_reducible rfl)|simp (disch:=omega) only[w64]|(show False;done))
  ·
   by_cases h2:((row g i).length:Int)=g.length
   ·
    rw[B_neg fun h3=>h ⟨by omega,h3⟩]at ha
    ((with_reducible repeat (first|refine ZP (by first|assumption|omega|rfl|exact B_pos (by omega)) ?_|refine ZO (by first|assumption|omega|decide|exact B_not (by omega)) ?_|refine Zq (by first|assumption) ?_|dsimp only));first|done|(with_reducible rfl)|simp (disch:=omega) only[w64]|(show False;done))
   ·
    ((with_reducible repeat (first|refine ZP (by first|assumption|omega|rfl|exact B_pos (by omega)) ?_|refine ZO (by first|assumption|omega|decide|exact B_not (by omega)) ?_|refine Zq (by first|assumption) ?_|dsimp only));first|done|(with_reducible rfl)|simp (disch:=omega) only[w64]|(show False;done))
 (rw[Zl.l0_eq])
 (with_reducible repeat (first|refine ZP (by first|assumption|omega|rfl|exact B_pos (by omega)) ?_|refine ZO (by first|assumption|omega|decide|exact B_not (by omega)) ?_|refine Zq (by first|assumption) ?_|dsimp only))
 refine scanT g.length (fun i=>Zl.l1 (g.length:Int) (g.length:Int) i g) (Law g) (fun a a0 a1 _ => ?_) (fun _ => ?_)
 rotate_left
 ·
  (rw[Zl.l1_eq])
  ((with_reducible repeat (first|refine ZP (by first|assumption|omega|rfl|exact B_pos (by omega)) ?_|refine ZO (by first|assumption|omega|decide|exact B_not (by omega)) ?_|refine Zq (by first|assumption) ?_|dsimp only));first|done|(with_reducible rfl)|simp (disch:=omega) only[w64]|(show False;done))
 have hlen:∀x:Int,0≤x→x < g.length→((row g x).length:Int)=g.length:=fun x x0 x1=>by rw[(ht x x0 x1).1]
 have hent:∀x y:Int,0≤x→x < g.length→0≤y→y < g.length→0≤T g x y∧T g x y < g.length:=fun x y x0 x1 y0 y1=>(ht x x0 x1).2 y y0 (by rw[hlen x x0 x1];exact y1)
 have l0:=hlen 0 (by omega) (by omega)
 have la:=hlen a a0 a1
 have hc:=Ziy (row g a) 0 (ZhG hr a0 a1)
 rw[ZbU (show(∃i:Int,0≤i∧i < (row g a).length∧rd (row g a) i=0)↔∃b:Int,0≤b∧b < g.length∧T g a b=0 by rw[la];exact Iff.rfl)]at hc
 by_cases h2:T g 0 a=a
 rotate_left
 ·
  refine⟨fun h=>absurd h.1 h2,fun _ => ?_⟩
  (rw[Zl.l1_eq])
  ((with_reducible repeat (first|refine ZP (by first|assumption|omega|rfl|exact B_pos (by omega)) ?_|refine ZO (by first|assumption|omega|decide|exact B_not (by omega)) ?_|refine Zq (by first|assumption) ?_|dsimp only));first|done|(with_reducible rfl)|simp (disch:=omega) only[w64]|(show False;done))
 by_cases h3:T g a 0=a
 rotate_left
 ·
  refine⟨fun h=>absurd h.2.1 h3,fun _ => ?_⟩
  (rw[Zl.l1_eq])
  ((with_reducible repeat (first|refine ZP (by first|assumption|omega|rfl|exact B_pos (by omega)) ?_|refine ZO (by first|assumption|omega|decide|exact B_not (by omega)) ?_|refine Zq (by first|assumption) ?_|dsimp only));first|done|(with_reducible rfl)|simp (disch:=omega) only[w64]|(show False;done))
 by_cases h4:∃b:Int,0≤b∧b < g.length∧T g a b=0
 rotate_left
 ·
  refine⟨fun h=>absurd h.2.2.1 h4,fun _ => ?_⟩
  rw[B_neg h4]at hc
  (rw[Zl.l1_eq])
  ((with_reducible repeat (first|refine ZP (by first|assumption|omega|rfl|exact B_pos (by omega)) ?_|refine ZO (by first|assumption|omega|decide|exact B_not (by omega)) ?_|refine Zq (by first|assumption) ?_|dsimp only));first|done|(with_reducible rfl)|simp (disch:=omega) only[w64]|(show False;done))
 rw[B_pos h4]at hc
 have inner:=scanI g.length (fun b=>Zl.l2 (g.length:Int) a (g.length:Int) a (g.length:Int) b g) (fun b=>∀c:Int,0≤c→c < g.length→T g (T g a b) c=T g a (T g b c)) (some false) (Zl.l1 (g.length:Int) (g.length:Int) (a+1) g)
  (fun b b0 b1 _=>by
   obtain⟨e0,e1⟩:=hent a b a0 a1 b0 b1
   have le:=hlen _ e0 e1
   have lb:=hlen b b0 b1
   have:=scanI g.length (fun c=>Zl.l3 (g.length:Int) a b (g.length:Int) a (g.length:Int) b (g.length:Int) c g) (fun c=>T g (T g a b) c=T g a (T g b c)) (some false) (Zl.l2 (g.length:Int) a (g.length:Int) a (g.length:Int) (b+1) g)
    (fun c c0 c1 _=>by
     obtain⟨f0,f1⟩:=hent b c b0 b1 c0 c1
     refine⟨fun h => ?_,fun h => ?_⟩ <;> (rw[Zl.l3_eq]) <;> ((with_reducible repeat (first|refine ZP (by first|assumption|omega|rfl|exact B_pos (by omega)) ?_|refine ZO (by first|assumption|omega|decide|exact B_not (by omega)) ?_|refine Zq (by first|assumption) ?_|dsimp only));first|done|(with_reducible rfl)|simp (disch:=omega) only[w64]|(show False;done))) (fun _=>by(rw[Zl.l3_eq]);((with_reducible repeat (first|refine ZP (by first|assumption|omega|rfl|exact B_pos (by omega)) ?_|refine ZO (by first|assumption|omega|decide|exact B_not (by omega)) ?_|refine Zq (by first|assumption) ?_|dsimp only));first|done|(with_reducible rfl)|simp (disch:=omega) only[w64]|(show False;done)))
   refine⟨fun h => ?_,fun h => ?_⟩ <;> (rw[Zl.l2_eq])
   ·
    (with_reducible repeat (first|refine ZP (by first|assumption|omega|rfl|exact B_pos (by omega)) ?_|refine ZO (by first|assumption|omega|decide|exact B_not (by omega)) ?_|refine Zq (by first|assumption) ?_|dsimp only))
    exact this.1 h
   ·
    (with_reducible repeat (first|refine ZP (by first|assumption|omega|rfl|exact B_pos (by omega)) ?_|refine ZO (by first|assumption|omega|decide|exact B_not (by omega)) ?_|refine Zq (by first|assumption) ?_|dsimp only))
    exact this.2 h) (fun _=>by(rw[Zl.l2_eq]);((with_reducible repeat (first|refine ZP (by first|assumption|omega|rfl|exact B_pos (by omega)) ?_|refine ZO (by first|assumption|omega|decide|exact B_not (by omega)) ?_|refine Zq (by first|assumption) ?_|dsimp only));first|done|(with_reducible rfl)|simp (disch:=omega) only[w64]|(show False;done)))
 refine⟨fun h => ?_,fun h => ?_⟩ <;> (rw[Zl.l1_eq]) <;> (with_reducible repeat (first|refine ZP (by first|assumption|omega|rfl|exact B_pos (by omega)) ?_|refine ZO (by first|assumption|omega|decide|exact B_not (by omega)) ?_|refine Zq (by first|assumption) ?_|dsimp only))
 ·
  exact inner.1 h.2.2.2
 ·
  exact inner.2 fun k=>h ⟨h2,h3,h4,k⟩
end Go.Proofs.YthmcpmnhdbeahaaGreat.V
namespace Go.Proofs.YthmcpmnhdbeahaaGreat.V
open Go.RowKit Go.Proofs.YthmcpmnhdbeahaaGreat.D Go.Proofs.YthmcpmnhdbeahaaGreat.P
theorem In_ (x lo hi:Int):Za5.f x lo hi=some (B (lo≤x∧x≤hi)):=by
 rw[Za5.f_eq]
 by_cases h:x≥lo
 ·
  rw[if_pos h,Zeq,ZbU (show x≤hi↔(lo≤x∧x≤hi)from⟨fun h' => ⟨h,h'⟩,fun h' => h'.2⟩)]
 ·
  rw[if_neg h,B_neg (fun h' => h h'.1)]
def LawS (g:List (List Int)) (a:Int):Prop:=T g 0 a=a∧T g a 0=a∧(∀b:Int,0≤b→b < g.length→∀c:Int,0≤c→c < g.length→T g (T g a b) c=T g a (T g b c))∧∃b:Int,0≤b∧b < g.length∧T g a b=0∧T g b a=0
theorem ZjJ (g:List (List Int)):Grp g↔(1≤g.length∧g.length≤8)∧Tab g∧∀a:Int,0≤a→a < g.length→LawS g a:=by
 rw[ZgV]
 constructor
 ·
  intro h
  have hg:=(ZgV g).2 h
  refine⟨h.1,h.2.1,fun a a0 a1 => ?_⟩
  obtain⟨h1,h2,_,h4⟩:=h.2.2 a a0 a1
  exact⟨h1,h2,h4,hg.inv2 a0 a1⟩
 ·
  rintro⟨h1,h2,h3⟩
  refine⟨h1,h2,fun a a0 a1 => ?_⟩
  obtain⟨k1,k2,k3,b,b0,b1,hb,_⟩:=h3 a a0 a1
  exact⟨k1,k2,⟨b,b0,b1,hb⟩,k3⟩
theorem Is_ (g:List (List Int)):Zj.f g=some (B (Grp g)):=by
 rw[ZbU (ZjJ g)]
 (rw[Zj.f_eq])
 by_cases c1:1≤(g.length:Int)∧(g.length:Int)≤8
 rotate_left
 ·
  rw[B_neg fun h=>c1 (by omega)]
  ((with_reducible repeat (first|refine ZP (by first|assumption|omega|rfl|exact B_pos (by omega)) ?_|refine ZO (by first|assumption|omega|decide|exact B_not (by omega)) ?_|refine Zq (by first|assumption|exact In_ _ _ _) ?_|dsimp only));first|done|(with_reducible rfl)|simp (disch:=omega) only[w64]|(show False;done))
 rw[ZbU (show((1≤g.length∧g.length≤8)∧Tab g∧∀a:Int,0≤a→a < g.length→LawS g a)↔(Tab g∧∀a:Int,0≤a→a < g.length→LawS g a)from⟨fun h=>h.2,fun h=>⟨by omega,h⟩⟩)]
 (with_reducible repeat (first|refine ZP (by first|assumption|omega|rfl|exact B_pos (by omega)) ?_|refine ZO (by first|assumption|omega|decide|exact B_not (by omega)) ?_|refine Zq (by first|assumption|exact In_ _ _ _) ?_|dsimp only))
 have hw1:wrapI ((g.length:Int) - 1)=g.length - 1:=w64 (by omega) (by omega)
 refine scanB g.length (fun i=>Zj.l0 (g.length:Int) i g) (fun a=>(row g a).length=g.length∧AllIn g.length (row g a)) (∀a:Int,0≤a→a < g.length→LawS g a) (fun a a0 a1 _ => ?_) (fun ht => ?_)
 ·
  by_cases h2:((row g a).length:Int)=g.length
  rotate_left
  ·
   refine⟨fun h=>absurd h.1 (by omega),fun _ => ?_⟩
   (rw[Zj.l0_eq])
   ((with_reducible repeat (first|refine ZP (by first|assumption|omega|rfl|exact B_pos (by omega)) ?_|refine ZO (by first|assumption|omega|decide|exact B_not (by omega)) ?_|refine Zq (by first|assumption) ?_|dsimp only));first|done|(with_reducible rfl)|simp (disch:=omega) only[w64]|(show False;done))
  have inner:=scanI g.length (fun b=>Zj.l1 (g.length:Int) a b g) (fun b=>0≤T g a b∧T g a b < g.length) (some false) (Zj.l0 (g.length:Int) (a+1) g)
   (fun b b0 b1 _=>by refine⟨fun h => ?_,fun h => ?_⟩ <;> (rw[Zj.l1_eq,hw1]) <;> ((with_reducible repeat (first|refine ZP (by first|assumption|omega|rfl|exact B_pos (by omega)) ?_|refine ZO (by first|assumption|omega|decide|exact B_not (by omega)) ?_|refine Zq (by first|assumption|exact In_ _ _ _) ?_|dsimp only));first|done|(with_reducible rfl)|simp (disch:=omega) only[w64]|(show False;done))) (fun _=>by(rw[Zj.l1_eq]);((with_reducible repeat (first|refine ZP (by first|assumption|omega|rfl|exact B_pos (by omega)) ?_|refine ZO (by first|assumption|omega|decide|exact B_not (by omega)) ?_|refine Zq (by first|assumption) ?_|dsimp only));first|done|(with_reducible rfl)|simp (disch:=omega) only[w64]|(show False;done)))
  refine⟨fun h => ?_,fun h => ?_⟩ <;> (rw[Zj.l0_eq]) <;> (with_reducible repeat (first|refine ZP (by first|assumption|omega|rfl|exact B_pos (by omega)) ?_|refine ZO (by first|assumption|omega|decide|exact B_not (by omega)) ?_|refine Zq (by first|assumption) ?_|dsimp only))
  ·
   exact inner.1 fun j j0 j1=>h.2 j j0 (by omega)
  ·
   exact inner.2 fun k=>h ⟨by omega,fun j j0 j1=>k j j0 (by omega)⟩
 (rw[Zj.l0_eq])
 (with_reducible repeat (first|refine ZP (by first|assumption|omega|rfl|exact B_pos (by omega)) ?_|refine ZO (by first|assumption|omega|decide|exact B_not (by omega)) ?_|refine Zq (by first|assumption) ?_|dsimp only))
 refine scanT g.length (fun i=>Zj.l2 (g.length:Int) i g) (LawS g) (fun a a0 a1 _ => ?_) (fun _=>by(rw[Zj.l2_eq]);((with_reducible repeat (first|refine ZP (by first|assumption|omega|rfl|exact B_pos (by omega)) ?_|refine ZO (by first|assumption|omega|decide|exact B_not (by omega)) ?_|refine Zq (by first|assumption) ?_|dsimp only));first|done|(with_reducible rfl)|simp (disch:=omega) only[w64]|(show False;done)))
 have hlen:∀x:Int,0≤x→x < g.length→((row g x).length:Int)=g.length:=fun x x0 x1=>by rw[(ht x x0 x1).1]
 have hent:∀x y:Int,0≤x→x < g.length→0≤y→y < g.length→0≤T g x y∧T g x y < g.length:=fun x y x0 x1 y0 y1=>(ht x x0 x1).2 y y0 (by rw[hlen x x0 x1];exact y1)
 have l0:=hlen 0 (by omega) (by omega)
 have la:=hlen a a0 a1
 by_cases h2:T g 0 a=a
 rotate_left
 ·
  refine⟨fun h=>absurd h.1 h2,fun _ => ?_⟩
  (rw[Zj.l2_eq])
  ((with_reducible repeat (first|refine ZP (by first|assumption|omega|rfl|exact B_pos (by omega)) ?_|refine ZO (by first|assumption|omega|decide|exact B_not (by omega)) ?_|refine Zq (by first|assumption) ?_|dsimp only));first|done|(with_reducible rfl)|simp (disch:=omega) only[w64]|(show False;done))
 by_cases h3:T g a 0=a
 rotate_left
 ·
  refine⟨fun h=>absurd h.2.1 h3,fun _ => ?_⟩
  (rw[Zj.l2_eq])
  ((with_reducible repeat (first|refine ZP (by first|assumption|omega|rfl|exact B_pos (by omega)) ?_|refine ZO (by first|assumption|omega|decide|exact B_not (by omega)) ?_|refine Zq (by first|assumption) ?_|dsimp only));first|done|(with_reducible rfl)|simp (disch:=omega) only[w64]|(show False;done))
 let Fd:Int→Prop:=fun b=>∃j:Int,0≤j∧j < b∧T g a j=0∧T g j a=0
 have fd0:B (Fd 0)=false:=B_neg fun⟨j,j0,j1,_⟩=>by omega
 have inner:=scan g.length (fun b=>Zj.l3 (g.length:Int) a (B (Fd b)) b g) (fun b=>∀c:Int,0≤c→c < g.length→T g (T g a b) c=T g a (T g b c)) (some false) (fun b b0 b1 _=>by
  obtain⟨e0,e1⟩:=hent a b a0 a1 b0 b1
  have le:=hlen _ e0 e1
  have lb:=hlen b b0 b1
  have toj:Zj.l3 (g.length:Int) a (B (Fd b)) b g=Zj.l4 (g.length:Int) a (B (Fd (b+1))) b 0 g:=by
   by_cases k1:Fd b
   ·
    rw[B_pos k1,B_pos (show Fd (b+1)from by obtain⟨j,j0,j1,h⟩:=k1;exact⟨j,j0,by omega,h⟩)]
    (rw[Zj.l3_eq])
    ((with_reducible repeat (first|refine ZP (by first|assumption|omega|rfl|exact B_pos (by omega)) ?_|refine ZO (by first|assumption|omega|decide|exact B_not (by omega)) ?_|refine Zq (by first|assumption) ?_|dsimp only));first|done|(with_reducible rfl)|simp (disch:=omega) only[w64]|(show False;done))
   ·
    rw[B_neg k1]
    by_cases k2:T g a b=0
    ·
     have e:B (Fd (b+1))=decide (T g b a=0):=by
      by_cases k3:T g b a=0
      ·
       rw[B_pos ⟨b,b0,by omega,k2,k3⟩];simp[k3]
      ·
       rw[B_neg]
       ·
        simp[k3]
       ·
        rintro⟨j,j0,j1,ja,jb⟩
        by_cases ej:j=b
        ·
         subst ej;exact k3 jb
        ·
         exact k1 ⟨j,j0,by omega,ja,jb⟩
     rw[e]
     (rw[Zj.l3_eq])
     ((with_reducible repeat (first|refine ZP (by first|assumption|omega|rfl|exact B_pos (by omega)) ?_|refine ZO (by first|assumption|omega|decide|exact B_not (by omega)) ?_|refine Zq (by first|assumption) ?_|dsimp only));first|done|(with_reducible rfl)|simp (disch:=omega) only[w64]|(show False;done))
    ·
     rw[B_neg (show ¬ Fd (b+1)from by
      rintro⟨j,j0,j1,ja,jb⟩
      by_cases ej:j=b
      ·
       subst ej;exact k2 ja
      ·
       exact k1 ⟨j,j0,by omega,ja,jb⟩)]
     (rw[Zj.l3_eq])
     ((with_reducible repeat (first|refine ZP (by first|assumption|omega|rfl|exact B_pos (by omega)) ?_|refine ZO (by first|assumption|omega|decide|exact B_not (by omega)) ?_|refine Zq (by first|assumption) ?_|dsimp only));first|done|(with_reducible rfl)|simp (disch:=omega) only[w64]|(show False;done))
  have inner4:=scanI g.length (fun c=>Zj.l4 (g.length:Int) a (B (Fd (b+1))) b c g) (fun c=>T g (T g a b) c=T g a (T g b c)) (some false) (Zj.l3 (g.length:Int) a (B (Fd (b+1))) (b+1) g) (fun c c0 c1 _=>by
   obtain⟨f0,f1⟩:=hent b c b0 b1 c0 c1
   refine⟨fun h => ?_,fun h => ?_⟩ <;> (rw[Zj.l4_eq]) <;> ((with_reducible repeat (first|refine ZP (by first|assumption|omega|rfl|exact B_pos (by omega)) ?_|refine ZO (by first|assumption|omega|decide|exact B_not (by omega)) ?_|refine Zq (by first|assumption) ?_|dsimp only));first|done|(with_reducible rfl)|simp (disch:=omega) only[w64]|(show False;done))) (fun _=>by(rw[Zj.l4_eq]);((with_reducible repeat (first|refine ZP (by first|assumption|omega|rfl|exact B_pos (by omega)) ?_|refine ZO (by first|assumption|omega|decide|exact B_not (by omega)) ?_|refine Zq (by first|assumption) ?_|dsimp only));first|done|(with_reducible rfl)|simp (disch:=omega) only[w64]|(show False;done)))
  exact⟨fun h=>toj.trans (inner4.1 h),fun h=>toj.trans (inner4.2 h)⟩)
 have st:Zj.l2 (g.length:Int) a g=Zj.l3 (g.length:Int) a (B (Fd 0)) 0 g:=by
  rw[fd0]
  (rw[Zj.l2_eq])
  ((with_reducible repeat (first|refine ZP (by first|assumption|omega|rfl|exact B_pos (by omega)) ?_|refine ZO (by first|assumption|omega|decide|exact B_not (by omega)) ?_|refine Zq (by first|assumption) ?_|dsimp only));first|done|(with_reducible rfl)|simp (disch:=omega) only[w64]|(show False;done))
 rw[st]
 rcases inner with ⟨h5,h6⟩|⟨b,b0,b1,_,h5,_,h6⟩
 ·
  simp only[h6]
  by_cases h7:Fd g.length
  ·
   refine⟨fun _ => ?_,fun h=>absurd ⟨h2,h3,h5,h7⟩ h⟩
   rw[B_pos h7]
   (rw[Zj.l3_eq])
   ((with_reducible repeat (first|refine ZP (by first|assumption|omega|rfl|exact B_pos (by omega)) ?_|refine ZO (by first|assumption|omega|decide|exact B_not (by omega)) ?_|refine Zq (by first|assumption) ?_|dsimp only));first|done|(with_reducible rfl)|simp (disch:=omega) only[w64]|(show False;done))
  ·
   refine⟨fun h=>absurd h.2.2.2 h7,fun h => ?_⟩
   rw[B_neg h7]
   (rw[Zj.l3_eq])
   ((with_reducible repeat (first|refine ZP (by first|assumption|omega|rfl|exact B_pos (by omega)) ?_|refine ZO (by first|assumption|omega|decide|exact B_not (by omega)) ?_|refine Zq (by first|assumption) ?_|dsimp only));first|done|(with_reducible rfl)|simp (disch:=omega) only[w64]|(show False;done))
 ·
  exact⟨fun h=>absurd (h.2.2.1 b b0 b1) h5,fun _=>h6⟩
theorem gcd0 (y:Nat):∀x:Nat,Zbc.l0 (x:Int) (y:Int)=some ((Nat.gcd x y:Nat):Int):=by
 induction y using Nat.strongRecOn with
 | _ y ih =>
  intro x
  (rw[Zbc.l0_eq])
  by_cases h:y=0
  ·
   subst h
   simp
  ·
   have e:Int.tmod (x:Int) (y:Int)=((x%y:Nat):Int):=by rw[Int.ofNat_tmod]
   have:=ih (x%y) (Nat.mod_lt _ (by omega)) y
   rw[show Nat.gcd y (x%y)=Nat.gcd x y by rw[Nat.gcd_comm x y,Nat.gcd_rec y x,Nat.gcd_comm]]at this
   rw[e]
   (with_reducible repeat (first|refine ZP (by first|assumption|omega|rfl|exact B_pos (by omega)) ?_|refine ZO (by first|assumption|omega|decide|exact B_not (by omega)) ?_|refine Zq (by first|assumption) ?_|dsimp only))
   exact this
theorem gcd_ {a b:Int} (ha:0≤a) (hb:0≤b):Zbc.f a b=some ((Int.gcd a b:Nat):Int):=by
 obtain⟨x,rfl⟩:=Int.eq_ofNat_of_zero_le ha
 obtain⟨y,rfl⟩:=Int.eq_ofNat_of_zero_le hb
 have:=gcd0 y x
 rw[Zbc.f_eq]
 simpa [Int.gcd] using this
theorem Gcd0 (y:Nat):∀x:Nat,x≤9223372036854775807→y≤9223372036854775807→ZaB.l0 (x:Int) (y:Int)=some ((Nat.gcd x y:Nat):Int):=by
 induction y using Nat.strongRecOn with
 | _ y ih =>
  intro x hx hy
  (rw[ZaB.l0_eq])
  by_cases h:y=0
  ·
   subst h
   have hw:wrapI (0 - (x:Int)) = -(x:Int):=by rw[w64 (by omega) (by omega)];omega
   rw[hw,if_pos (by simp),if_neg (by omega)]
   simp
  ·
   have e:Int.tmod (x:Int) (y:Int)=((x%y:Nat):Int):=by rw[Int.ofNat_tmod]
   have hlt:=Nat.mod_lt x (show y > 0 by omega)
   have:=ih (x%y) hlt y hy (by omega)
   rw[show Nat.gcd y (x%y)=Nat.gcd x y by rw[Nat.gcd_comm x y,Nat.gcd_rec y x,Nat.gcd_comm]]at this
   rw[e]
   (with_reducible repeat (first|refine ZP (by first|assumption|omega|rfl|exact B_pos (by omega)) ?_|refine ZO (by first|assumption|omega|decide|exact B_not (by omega)) ?_|refine Zq (by first|assumption) ?_|dsimp only))
   exact this
theorem Gcd_ {a b:Int} (ha:0≤a) (hb:0≤b) (ha' : a≤9223372036854775807) (hb' : b≤9223372036854775807):ZaB.f a b=some ((Int.gcd a b:Nat):Int):=by
 obtain⟨x,rfl⟩:=Int.eq_ofNat_of_zero_le ha
 obtain⟨y,rfl⟩:=Int.eq_ofNat_of_zero_le hb
 have:=Gcd0 y x (by omega) (by omega)
 rw[ZaB.f_eq]
 simpa [Int.gcd] using this
theorem Grp.foldl_in {g:List (List Int)} (hg:Grp g):∀(xs:List Int) (x:Int),AllIn g.length xs→0≤x→x < g.length→0≤xs.foldl (T g) x∧xs.foldl (T g) x < g.length:=by
 intro xs
 induction xs with
 | nil=>exact fun x _ a b=>⟨a,b⟩
 | cons y ys ih =>
  intro x hx x0 x1
  obtain⟨y0,y1⟩:=hx.mem (List.mem_cons_self ..)
  obtain⟨z0,z1⟩:=hg.ent x y x0 x1 y0 y1
  exact ih _ (Zct fun z hz=>hx.mem (List.mem_cons_of_mem _ hz)) z0 z1
theorem ZfF {xs:List Int} {m:Nat} (h:m < xs.length):xs.drop m=rd xs m :: xs.drop (m+1):=by
 rw[List.drop_eq_getElem_cons h,rd_get h]
theorem Zdf {xs:List Int} {m:Nat} (h:m < xs.length):xs.take (m+1)=xs.take m++[rd xs m]:=by
 rw[List.take_succ_eq_append_getElem h,rd_get h]
theorem times {g:List (List Int)} (hg:Grp g) (xs:List Int) (hx:AllIn g.length xs) (hl:xs.length≤maxLen):ZH.f g xs=some (xs.foldl (T g) 0):=by
 have hm:=Zcp
 have n1:=hg.n1
 rw[ZH.f_eq]
 have:=up xs.length (fun i=>ZH.l0 ((xs.take i).foldl (T g) 0) xs (xs.length:Int) (i:Int) g) (fun i hi=>by
  obtain⟨z0,z1⟩:=hg.foldl_in (xs.take i) 0 (hx.take i) (by omega) (by omega)
  obtain⟨y0,y1⟩:=hx i (by omega) (by omega)
  have hr:((row g ((xs.take i).foldl (T g) 0)).length:Int)=g.length:=by rw[hg.row _ z0 z1]
  have hw:wrapI ((i:Int)+1)=((i+1:Nat):Int):=by rw[w64 (by omega) (by omega)];omega
  rw[Zdf hi,List.foldl_append,List.foldl_cons,List.foldl_nil]
  (rw[ZH.l0_eq,hw])
  ((with_reducible repeat (first|refine ZP (by first|assumption|omega|rfl|exact B_pos (by omega)) ?_|refine ZO (by first|assumption|omega|decide|exact B_not (by omega)) ?_|refine Zq (by first|assumption) ?_|dsimp only));first|done|(with_reducible rfl)|simp (disch:=omega) only[w64]|(show False;done)))
 simp only[List.take_zero,List.foldl_nil,List.take_length,Int.natCast_zero]at this
 rw[this]
 (rw[ZH.l0_eq])
 ((with_reducible repeat (first|refine ZP (by first|assumption|omega|rfl|exact B_pos (by omega)) ?_|refine ZO (by first|assumption|omega|decide|exact B_not (by omega)) ?_|refine Zq (by first|assumption) ?_|dsimp only));first|done|(with_reducible rfl)|simp (disch:=omega) only[w64]|(show False;done))
theorem times2 {g:List (List Int)} (hg:Grp g) {x y:Int} (x0:0≤x) (x1:x < g.length) (y0:0≤y) (y1:y < g.length):ZH.f g [x,y]=some (T g x y):=by
 have:=times hg [x,y] (Zig x0 x1 y0 y1) (by unfold maxLen;simp)
 simpa [hg.one x x0 x1] using this
end Go.Proofs.YthmcpmnhdbeahaaGreat.V
namespace Go.Proofs.YthmcpmnhdbeahaaGreat.V
open Go.RowKit Go.Proofs.YthmcpmnhdbeahaaGreat.D Go.Proofs.YthmcpmnhdbeahaaGreat.P
structure Mdl (g:List (List Int)) (m:Int) (u:List Int):Prop where
 m2:2≤m
 m12:m≤12
 len:u.length=g.length
 unit:∀i:Int,0≤i→i < u.length→1≤rd u i∧rd u i < m∧Int.gcd (rd u i) m=1
 hom:∀i:Int,0≤i→i < u.length→∀j:Int,0≤j→j < u.length→rd u (T g i j)=rd u i*rd u j%m
theorem Zkb:∀m:Nat,m≤12→∀u:Nat,u < m→Nat.gcd u m=1→u=u*u%m→1≤u→u=1:=by decide
theorem Mdl.one {g:List (List Int)} {m:Int} {u:List Int} (hg:Grp g) (h:Mdl g m u):rd u 0=1:=by
 have n1:=hg.n1
 have hl:=h.len
 obtain⟨a1,a2,a3⟩:=h.unit 0 (by omega) (by omega)
 have e:=h.hom 0 (by omega) (by omega) 0 (by omega) (by omega)
 rw[hg.one 0 (by omega) (by omega)]at e
 have m2:=h.m2;have m12:=h.m12
 obtain⟨M,rfl⟩:=Int.eq_ofNat_of_zero_le (show 0≤m by omega)
 obtain⟨U,hU⟩:=Int.eq_ofNat_of_zero_le (show 0≤rd u 0 by omega)
 rw[hU]at a1 a2 a3 e ⊢
 have:=Zkb M (by omega) U (by omega) (by simpa [Int.gcd] using a3) (by exact_mod_cast e) (by omega)
 omega
theorem ZbE {a b m:Int} (a0:0≤a) (a1:a < m) (b0:0≤b) (b1:b < m) (hm:m≤1000):0≤a*b∧a*b≤1000000:=by
 refine⟨Int.mul_nonneg a0 b0,?_⟩
 have h1:a*b≤1000*b:=Int.mul_le_mul_of_nonneg_right (by omega) b0
 omega
theorem Mdl.at {g:List (List Int)} {m:Int} {u:List Int} (h:Mdl g m u) {x:Int} (x0:0≤x) (x1:x < g.length):1≤rd u x∧rd u x < m:=by
 have hl:=h.len
 obtain⟨a,b,_⟩:=h.unit x x0 (by omega)
 exact⟨a,b⟩
theorem Zfr {m x:Int} {u:List Int} {g:List (List Int)} (hm:Mdl g m u) (x0:0≤x) (x1:x < g.length) {b:Int} (b0:0≤b) (b1:b < m):0≤rd u x*b∧rd u x*b≤1000000:=by
 have m12:=hm.m12
 have:=hm.at x0 x1
 exact ZbE (by omega) this.2 b0 b1 (by omega)
theorem Zk9 {m x:Int} (m0:0≤m):Zbe.f m x=some (B (1≤x∧x < m∧Int.gcd x m=1)):=by
 rw[Zbe.f_eq]
 by_cases h1:1≤x∧x < m
 ·
  have h:=gcd_ m0 (show 0≤x by omega)
  (with_reducible repeat (first|refine ZP (by first|assumption|omega|rfl|exact B_pos (by omega)) ?_|refine ZO (by first|assumption|omega|decide|exact B_not (by omega)) ?_|refine Zq (by first|assumption) ?_|dsimp only))
  rw[Int.gcd_comm]
  by_cases h3:Int.gcd x m=1
  ·
   rw[B_pos ⟨h1.1,h1.2,h3⟩];simp[h3]
  ·
   rw[B_neg fun h=>h3 h.2.2]
   simp;omega
 ·
  rw[B_neg fun h=>h1 ⟨h.1,h.2.1⟩]
  by_cases h2:1≤x <;> ((with_reducible repeat (first|refine ZP (by first|assumption|omega|rfl|exact B_pos (by omega)) ?_|refine ZO (by first|assumption|omega|decide|exact B_not (by omega)) ?_|refine Zq (by first|assumption) ?_|dsimp only));first|done|(with_reducible rfl)|simp (disch:=omega) only[w64]|(show False;done))
theorem Zc6 (m:Int):ZaK.f m=some (B (2≤m∧m≤12)):=by
 rw[ZaK.f_eq]
 by_cases h:m≥2
 ·
  rw[if_pos h,Zeq,ZbU (show m≤12↔(2≤m∧m≤12)from⟨fun h' => ⟨h,h'⟩,fun h' => h'.2⟩)]
 ·
  rw[if_neg h,B_neg (fun h' => h h'.1)]
theorem ZiP (g:List (List Int)) (m:Int) (u:List Int):Mdl g m u↔(2≤m∧m≤12)∧u.length=g.length∧(∀i:Int,0≤i→i < u.length→1≤rd u i∧rd u i < m∧Int.gcd (rd u i) m=1)∧∀i:Int,0≤i→i < u.length→∀j:Int,0≤j→j < u.length→rd u (T g i j)=rd u i*rd u j%m :=
 ⟨fun h=>⟨⟨h.m2,h.m12⟩,h.len,h.unit,h.hom⟩,fun⟨⟨a,b⟩,c,d,e⟩=>⟨a,b,c,d,e⟩⟩
theorem ZfI {g:List (List Int)} (hg:Grp g) (m:Int) (u:List Int) (hl:u.length≤maxLen):Zu.f g m u=some (B (Mdl g m u)):=by
 have hm:=Zcp
 have n1:=hg.n1
 (rw[Zu.f_eq])
 by_cases h1:2≤m∧m≤12
 rotate_left
 ·
  rw[B_neg fun h=>h1 ⟨h.m2,h.m12⟩]
  ((with_reducible repeat (first|refine ZP (by first|assumption|omega|rfl|exact B_pos (by omega)) ?_|refine ZO (by first|assumption|omega|decide|exact B_not (by omega)) ?_|refine Zq (by first|assumption|exact Zc6 _|exact Z7.f_eq _) ?_|dsimp only));first|done|(with_reducible rfl)|simp (disch:=omega) only[w64]|(show False;done))
 by_cases h3:(u.length:Int)=g.length
 rotate_left
 ·
  rw[B_neg fun h=>h3 (by rw[h.len])]
  ((with_reducible repeat (first|refine ZP (by first|assumption|omega|rfl|exact B_pos (by omega)) ?_|refine ZO (by first|assumption|omega|decide|exact B_not (by omega)) ?_|refine Zq (by first|assumption|exact Zc6 _|exact Z7.f_eq _) ?_|dsimp only));first|done|(with_reducible rfl)|simp (disch:=omega) only[w64]|(show False;done))
 by_cases h5:rd u 0=1
 rotate_left
 ·
  rw[B_neg fun h=>h5 (h.one hg)]
  ((with_reducible repeat (first|refine ZP (by first|assumption|omega|rfl|exact B_pos (by omega)) ?_|refine ZO (by first|assumption|omega|decide|exact B_not (by omega)) ?_|refine Zq (by first|assumption|exact Zc6 _|exact Z7.f_eq _) ?_|dsimp only));first|done|(with_reducible rfl)|simp (disch:=omega) only[w64]|(show False;done))
 (with_reducible repeat (first|refine ZP (by first|assumption|omega|rfl|exact B_pos (by omega)) ?_|refine ZO (by first|assumption|omega|decide|exact B_not (by omega)) ?_|refine Zq (by first|assumption|exact Zc6 _|exact Z7.f_eq _) ?_|dsimp only))
 rw[ZbU (ZiP g m u),ZbU (show((2≤m∧m≤12)∧u.length=g.length∧(∀i:Int,0≤i→i < u.length→1≤rd u i∧rd u i < m∧Int.gcd (rd u i) m=1)∧∀i:Int,0≤i→i < u.length→∀j:Int,0≤j→j < u.length→rd u (T g i j)=rd u i*rd u j%m)↔_ from⟨fun h=>h.2.2,fun h=>⟨h1,by omega,h⟩⟩)]
 refine scanB u.length (fun i=>Zu.l0 u (u.length:Int) i g m u) (fun i=>1≤rd u i∧rd u i < m∧Int.gcd (rd u i) m=1) _ (fun i i0 i1 _ => ?_) (fun hu => ?_)
 ·
  have hu:=Zk9 (m:=m) (x:=rd u i) (by omega)
  refine⟨fun h => ?_,fun h => ?_⟩ <;> (rw[Zu.l0_eq]) <;> ((with_reducible repeat (first|refine ZP (by first|assumption|omega|rfl|exact B_pos (by omega)) ?_|refine ZO (by first|assumption|omega|decide|exact B_not (by omega)) ?_|refine Zq (by first|assumption) ?_|dsimp only));first|done|(with_reducible rfl)|simp (disch:=omega) only[w64]|(show False;done))
 (rw[Zu.l0_eq])
 (with_reducible repeat (first|refine ZP (by first|assumption|omega|rfl|exact B_pos (by omega)) ?_|refine ZO (by first|assumption|omega|decide|exact B_not (by omega)) ?_|refine Zq (by first|assumption|exact Z7.f_eq _) ?_|dsimp only))
 rw[←h3]
 refine scanT u.length (fun i=>Zu.l1 (u.length:Int) i g m u) (fun i=>∀j:Int,0≤j→j < u.length→rd u (T g i j)=rd u i*rd u j%m) (fun i i0 i1 _ => ?_) (fun _=>by(rw[Zu.l1_eq]);((with_reducible repeat (first|refine ZP (by first|assumption|omega|rfl|exact B_pos (by omega)) ?_|refine ZO (by first|assumption|omega|decide|exact B_not (by omega)) ?_|refine Zq (by first|assumption) ?_|dsimp only));first|done|(with_reducible rfl)|simp (disch:=omega) only[w64]|(show False;done)))
 have inner:=scanI u.length (fun j=>Zu.l2 i (u.length:Int) i (u.length:Int) j g m u) (fun j=>rd u (T g i j)=rd u i*rd u j%m) (some false) (Zu.l1 (u.length:Int) (i+1) g m u) (fun j j0 j1 _=>by
  have ht:=times2 hg i0 (by omega) j0 (by omega)
  obtain⟨e0,e1⟩:=hg.ent i j i0 (by omega) j0 (by omega)
  obtain⟨p0,p1⟩:=ZbE (show 0≤rd u i by have:=(hu i i0 i1).1;omega) (hu i i0 i1).2.1 (show 0≤rd u j by have:=(hu j j0 j1).1;omega) (hu j j0 j1).2.1 (by omega)
  have hwp:wrapI (rd u i*rd u j)=rd u i*rd u j:=w64 (by omega) (by omega)
  have e:=Zbz (m:=m) p0
  refine⟨fun h => ?_,fun h => ?_⟩ <;> (rw[Zu.l2_eq,hwp,e]) <;> ((with_reducible repeat (first|refine ZP (by first|assumption|omega|rfl|exact B_pos (by omega)) ?_|refine ZO (by first|assumption|omega|decide|exact B_not (by omega)) ?_|refine Zq (by first|assumption) ?_|dsimp only));first|done|(with_reducible rfl)|simp (disch:=omega) only[w64]|(show False;done))) (fun _=>by(rw[Zu.l2_eq]);((with_reducible repeat (first|refine ZP (by first|assumption|omega|rfl|exact B_pos (by omega)) ?_|refine ZO (by first|assumption|omega|decide|exact B_not (by omega)) ?_|refine Zq (by first|assumption) ?_|dsimp only));first|done|(with_reducible rfl)|simp (disch:=omega) only[w64]|(show False;done)))
 refine⟨fun h => ?_,fun h => ?_⟩ <;> (rw[Zu.l1_eq]) <;> (with_reducible repeat (first|refine ZP (by first|assumption|omega|rfl|exact B_pos (by omega)) ?_|refine ZO (by first|assumption|omega|decide|exact B_not (by omega)) ?_|refine Zq (by first|assumption|exact Z7.f_eq _) ?_|dsimp only)) <;> rw[←h3]
 ·
  exact inner.1 h
 ·
  exact inner.2 h
theorem Is02 {g:List (List Int)} (hg:Grp g) (m:Int) (u:List Int) (hl:u.length≤maxLen):Zab.f g m u=some (B (Mdl g m u)):=by
 have hm:=Zcp
 have n1:=hg.n1
 (rw[Zab.f_eq])
 by_cases h1:2≤m∧m≤12
 rotate_left
 ·
  rw[B_neg fun h=>h1 ⟨h.m2,h.m12⟩]
  ((with_reducible repeat (first|refine ZP (by first|assumption|omega|rfl|exact B_pos (by omega)) ?_|refine ZO (by first|assumption|omega|decide|exact B_not (by omega)) ?_|refine Zq (by first|assumption|exact In_ _ _ _) ?_|dsimp only));first|done|(with_reducible rfl)|simp (disch:=omega) only[w64]|(show False;done))
 by_cases h3:(u.length:Int)=g.length
 rotate_left
 ·
  rw[B_neg fun h=>h3 (by rw[h.len])]
  ((with_reducible repeat (first|refine ZP (by first|assumption|omega|rfl|exact B_pos (by omega)) ?_|refine ZO (by first|assumption|omega|decide|exact B_not (by omega)) ?_|refine Zq (by first|assumption|exact In_ _ _ _) ?_|dsimp only));first|done|(with_reducible rfl)|simp (disch:=omega) only[w64]|(show False;done))
 (with_reducible repeat (first|refine ZP (by first|assumption|omega|rfl|exact B_pos (by omega)) ?_|refine ZO (by first|assumption|omega|decide|exact B_not (by omega)) ?_|refine Zq (by first|assumption|exact In_ _ _ _) ?_|dsimp only))
 rw[ZbU (ZiP g m u),ZbU (show((2≤m∧m≤12)∧u.length=g.length∧(∀i:Int,0≤i→i < u.length→1≤rd u i∧rd u i < m∧Int.gcd (rd u i) m=1)∧∀i:Int,0≤i→i < u.length→∀j:Int,0≤j→j < u.length→rd u (T g i j)=rd u i*rd u j%m)↔_ from⟨fun h=>h.2.2,fun h=>⟨h1,by omega,h⟩⟩)]
 have hw1:wrapI (m - 1)=m - 1:=w64 (by omega) (by omega)
 refine scanB u.length (fun i=>Zab.l0 i g m u) (fun i=>1≤rd u i∧rd u i < m∧Int.gcd (rd u i) m=1) _ (fun i i0 i1 _ => ?_) (fun hu => ?_)
 ·
  refine⟨fun h => ?_,fun h => ?_⟩ <;> (rw[Zab.l0_eq,hw1])
  ·
   have hgc:=Gcd_ (a:=rd u i) (b:=m) (by omega) (by omega) (by omega) (by omega)
   ((with_reducible repeat (first|refine ZP (by first|assumption|omega|rfl|exact B_pos (by omega)) ?_|refine ZO (by first|assumption|omega|decide|exact B_not (by omega)) ?_|refine Zq (by first|assumption|exact In_ _ _ _) ?_|dsimp only));first|done|(with_reducible rfl)|simp (disch:=omega) only[w64]|(show False;done))
  ·
   by_cases h6:1≤rd u i∧rd u i < m
   ·
    have hgc:=Gcd_ (a:=rd u i) (b:=m) (by omega) (by omega) (by omega) (by omega)
    ((with_reducible repeat (first|refine ZP (by first|assumption|omega|rfl|exact B_pos (by omega)) ?_|refine ZO (by first|assumption|omega|decide|exact B_not (by omega)) ?_|refine Zq (by first|assumption|exact In_ _ _ _) ?_|dsimp only));first|done|(with_reducible rfl)|simp (disch:=omega) only[w64]|(show False;done))
   ·
    ((with_reducible repeat (first|refine ZP (by first|assumption|omega|rfl|exact B_pos (by omega)) ?_|refine ZO (by first|assumption|omega|decide|exact B_not (by omega)) ?_|refine Zq (by first|assumption|exact In_ _ _ _) ?_|dsimp only));first|done|(with_reducible rfl)|simp (disch:=omega) only[w64]|(show False;done))
 (rw[Zab.l0_eq])
 (with_reducible repeat (first|refine ZP (by first|assumption|omega|rfl|exact B_pos (by omega)) ?_|refine ZO (by first|assumption|omega|decide|exact B_not (by omega)) ?_|refine Zq (by first|assumption) ?_|dsimp only))
 refine scanT u.length (fun i=>Zab.l1 i g m u) (fun i=>∀j:Int,0≤j→j < u.length→rd u (T g i j)=rd u i*rd u j%m) (fun i i0 i1 _ => ?_) (fun _=>by(rw[Zab.l1_eq]);((with_reducible repeat (first|refine ZP (by first|assumption|omega|rfl|exact B_pos (by omega)) ?_|refine ZO (by first|assumption|omega|decide|exact B_not (by omega)) ?_|refine Zq (by first|assumption) ?_|dsimp only));first|done|(with_reducible rfl)|simp (disch:=omega) only[w64]|(show False;done)))
 have ri:=hg.row i i0 (by omega)
 have inner:=scanI u.length (fun j=>Zab.l2 i j g m u) (fun j=>rd u (T g i j)=rd u i*rd u j%m) (some false) (Zab.l1 (i+1) g m u) (fun j j0 j1 _=>by
  obtain⟨e0,e1⟩:=hg.ent i j i0 (by omega) j0 (by omega)
  obtain⟨p0,p1⟩:=ZbE (show 0≤rd u i by have:=(hu i i0 i1).1;omega) (hu i i0 i1).2.1 (show 0≤rd u j by have:=(hu j j0 j1).1;omega) (hu j j0 j1).2.1 (by omega)
  have hwp:wrapI (rd u i*rd u j)=rd u i*rd u j:=w64 (by omega) (by omega)
  have e:=Zbz (m:=m) p0
  refine⟨fun h => ?_,fun h => ?_⟩ <;> (rw[Zab.l2_eq,hwp,e]) <;> ((with_reducible repeat (first|refine ZP (by first|assumption|omega|rfl|exact B_pos (by omega)) ?_|refine ZO (by first|assumption|omega|decide|exact B_not (by omega)) ?_|refine Zq (by first|assumption) ?_|dsimp only));first|done|(with_reducible rfl)|simp (disch:=omega) only[w64]|(show False;done))) (fun _=>by(rw[Zab.l2_eq]);((with_reducible repeat (first|refine ZP (by first|assumption|omega|rfl|exact B_pos (by omega)) ?_|refine ZO (by first|assumption|omega|decide|exact B_not (by omega)) ?_|refine Zq (by first|assumption) ?_|dsimp only));first|done|(with_reducible rfl)|simp (disch:=omega) only[w64]|(show False;done)))
 refine⟨fun h => ?_,fun h => ?_⟩ <;> (rw[Zab.l1_eq]) <;> (with_reducible repeat (first|refine ZP (by first|assumption|omega|rfl|exact B_pos (by omega)) ?_|refine ZO (by first|assumption|omega|decide|exact B_not (by omega)) ?_|refine Zq (by first|assumption) ?_|dsimp only))
 ·
  exact inner.1 h
 ·
  exact inner.2 h
def GM (g:List (List Int)) (m:Int) (u:List Int):Prop:=Grp g∧Mdl g m u
theorem ZeA (g:List (List Int)) (hl:g.length≤maxLen) (hr:∀r∈g,r.length≤maxLen) (m:Int) (u:List Int) (hu:u.length≤maxLen):ZI.f g [(m,u)]=some (B (GM g m u)):=by
 have hG:=ZgW g hl hr
 rw[ZI.f_eq]
 have st:ZI.l0 [(m,u)] (([(m,u)]:List (Int×List Int)).length:Int) 1 g=some true:=by(rw[ZI.l0_eq]);exact if_neg (by simp)
 (rw[ZI.l0_eq])
 rw[if_pos (by simp),if_pos (by simp),if_pos (by simp),hG]
 by_cases h1:Grp g
 ·
  have hM:=ZfI h1 m u hu
  rw[B_pos h1]
  show(Option.bind (Zu.f g m u) _)=_
  rw[hM]
  by_cases h2:Mdl g m u
  ·
   rw[B_pos h2,B_pos ⟨h1,h2⟩]
   simpa [show wrapI 1=1 from w64 (by omega) (by omega)] using st
  ·
   rw[B_neg h2,B_neg fun h=>h2 h.2]
   rfl
 ·
  rw[B_neg h1,B_neg fun h=>h1 h.1]
  rfl
theorem ZdA (g:List (List Int)) (hl:g.length≤maxLen) (hr:∀r∈g,r.length≤maxLen) (m:Int) (u:List Int) (hu:u.length≤maxLen):ZC.f g [(m,u)]=some (ite_ (GM g m u) 0 1):=by
 rw[ZC.f_eq,ZeA g hl hr m u hu]
 by_cases h:GM g m u
 ·
  rw[B_pos h,ZbG h];rfl
 ·
  rw[B_neg h,ZbB h];rfl
end Go.Proofs.YthmcpmnhdbeahaaGreat.V
namespace Go.Proofs.YthmcpmnhdbeahaaGreat.V
open Go.RowKit Go.Proofs.YthmcpmnhdbeahaaGreat.D Go.Proofs.YthmcpmnhdbeahaaGreat.P
theorem Mod_ {a m:Int} (h0 : -1000000000≤a) (h1:a≤1000000000) (m0:0 < m) (m1:m≤1000000):Zbd.f a m=some (a%m):=by
 rw[Zbd.f_eq]
 have t0:=Int.tmod_lt_of_pos a m0
 have t1 : -m < Int.tmod a m:=Int.lt_tmod_of_pos a m0
 have hq:=Int.mul_tdiv_add_tmod a m
 have h5:(m*a.tdiv m+a.tmod m)%m=a.tmod m%m:=by rw[Int.add_comm,Int.add_mul_emod_self_left]
 rw[hq]at h5
 rw[w64 (by omega) (by omega),Int.tmod_eq_emod_of_nonneg (show 0≤Int.tmod a m+m by omega),Int.add_emod_right,←h5]
 ((with_reducible repeat (first|refine ZP (by first|assumption|omega|rfl|exact B_pos (by omega)) ?_|refine ZO (by first|assumption|omega|decide|exact B_not (by omega)) ?_|refine Zq (by first|assumption) ?_|dsimp only));first|done|(with_reducible rfl)|simp (disch:=omega) only[w64]|(show False;done))
theorem ZkQ:∀n:Nat,n≤7→∀i:Nat,i≤5→n ^ i≤16807:=by decide
theorem Zi6 {a:Int} (h0:0≤a) (h1:a≤7) (i:Nat) (hi:i≤5):0≤a ^ i∧a ^ i≤16807:=by
 obtain⟨n,rfl⟩:=Int.eq_ofNat_of_zero_le h0
 have h:=ZkQ n (by omega) i hi
 rw[←Int.natCast_pow]
 omega
def cells (g:List (List Int)) (d:Int):Int:=((g.length:Int) - 1) ^ d.toNat
theorem ZdI {g:List (List Int)} (hg:Grp g) {d:Int} (h1:d≤5):0≤cells g d∧cells g d≤16807:=by
 have n8:=hg.n8;have n0:=hg.n1
 exact Zi6 (by omega) (by omega) _ (by omega)
theorem power {a d:Int} (h0:0≤a) (h1:a≤7) (d0:0≤d) (d1:d≤4):Za0.f a d=some (a ^ d.toNat):=by
 obtain⟨n,rfl⟩:=Int.eq_ofNat_of_zero_le d0
 have:=up n (fun j=>Za0.l0 a (a ^ j) (n:Int) (j:Int)) (fun j hj=>by
  have hw:wrapI ((j:Int)+1)=((j+1:Nat):Int):=by rw[w64 (by omega) (by omega)];omega
  have b:=Zi6 h0 h1 (j+1) (by omega)
  have hp:wrapI (a ^ j*a)=a ^ (j+1):=by rw[show a ^ j*a=a ^ (j+1)from(Int.pow_succ a j).symm];exact w64 (by omega) (by omega)
  rw[Za0.l0_eq,hw,hp]
  ((with_reducible repeat (first|refine ZP (by first|assumption|omega|rfl|exact B_pos (by omega)) ?_|refine ZO (by first|assumption|omega|decide|exact B_not (by omega)) ?_|refine Zq (by first|assumption) ?_|dsimp only));first|done|(with_reducible rfl)|simp (disch:=omega) only[w64]|(show False;done)))
 simp only[Int.pow_zero,Int.natCast_zero]at this
 rw[Za0.f_eq,this,Za0.l0_eq,Int.toNat_natCast]
 ((with_reducible repeat (first|refine ZP (by first|assumption|omega|rfl|exact B_pos (by omega)) ?_|refine ZO (by first|assumption|omega|decide|exact B_not (by omega)) ?_|refine Zq (by first|assumption) ?_|dsimp only));first|done|(with_reducible rfl)|simp (disch:=omega) only[w64]|(show False;done))
theorem Zfa {g:List (List Int)} (hg:Grp g) {d:Int} (d0:0≤d) (d1:d≤4):ZaZ.f g d=some (cells g d):=by
 have n8:=hg.n8;have n0:=hg.n1
 have hw:wrapI ((g.length:Int) - 1)=g.length - 1:=w64 (by omega) (by omega)
 have hp:=power (a:=(g.length:Int) - 1) (by omega) (by omega) d0 d1
 show _=some (((g.length:Int) - 1) ^ d.toNat)
 rw[ZaZ.f_eq,Z7.f_eq,Option.bind_some,hw]
 ((with_reducible repeat (first|refine ZP (by first|assumption|omega|rfl|exact B_pos (by omega)) ?_|refine ZO (by first|assumption|omega|decide|exact B_not (by omega)) ?_|refine Zq (by first|assumption) ?_|dsimp only));first|done|(with_reducible rfl)|simp (disch:=omega) only[w64]|(show False;done))
def Co (g:List (List Int)) (m d:Int) (v:List Int):Prop:=(0≤d∧d≤3)∧(v.length:Int)=cells g d∧AllIn m v
theorem ZjP (d:Int):Za1.f d=some (B (0≤d∧d≤3)):=by
 rw[Za1.f_eq]
 by_cases h:d≥0
 ·
  rw[if_pos h,Zeq,ZbU (show d≤3↔(0≤d∧d≤3)from⟨fun h' => ⟨h,h'⟩,fun h' => h'.2⟩)]
 ·
  rw[if_neg h,B_neg (fun h' => h h'.1)]
def idx (g:List (List Int)) (xs:List Int):Int:=xs.foldl (fun a x=>a*((g.length:Int) - 1)+x - 1) 0
theorem ZjK (g:List (List Int)) (xs:List Int) (x:Int):idx g (xs++[x])=idx g xs*((g.length:Int) - 1)+x - 1:=by simp[idx]
theorem Zhx {g:List (List Int)} {xs:List Int} {i:Nat} (h:i < xs.length):idx g (xs.take (i+1))=idx g (xs.take i)*((g.length:Int) - 1)+rd xs (i:Int) - 1:=by
 rw[Zdf h,ZjK]
theorem Zkj {g:List (List Int)} (hg:Grp g) {xs:List Int} (hx:AllIn g.length xs):∀i:Nat,i≤xs.length→(∀j:Int,0≤j→j < i→¬ rd xs j=0)→0≤idx g (xs.take i)∧idx g (xs.take i)+1≤((g.length:Int) - 1) ^ i:=by
 have n8:=hg.n8;have n1:=hg.n1
 intro i
 induction i with
 | zero=>intro _ _;simp[idx]
 | succ i ih =>
  intro hi hz
  obtain⟨a0,a1⟩:=ih (by omega) (fun j h0 h1=>hz j h0 (by omega))
  obtain⟨x0,x1⟩:=hx i (by omega) (by omega)
  have x2:=hz i (by omega) (by omega)
  rw[Zhx (by omega),Int.pow_succ]
  have b1:0≤idx g (xs.take i)*((g.length:Int) - 1):=Int.mul_nonneg a0 (by omega)
  have b2:(idx g (xs.take i)+1)*((g.length:Int) - 1)≤((g.length:Int) - 1) ^ i*((g.length:Int) - 1):=Int.mul_le_mul_of_nonneg_right a1 (by omega)
  rw[Int.add_mul,Int.one_mul]at b2
  omega
def Zck (xs:List Int):Prop:=∀j:Int,0≤j→j < xs.length→¬ rd xs j=0
noncomputable def At (g:List (List Int)) (v xs:List Int):Int:=ite_ (Zck xs) (rd v (idx g xs)) 0
theorem ZjL {g:List (List Int)} (hg:Grp g) {xs:List Int} (hx:AllIn g.length xs) (hl:xs.length≤4) {n:Nat} (hn:n < xs.length) (hz:∀j:Int,0≤j→j < (n:Int)→¬ rd xs j=0) :
  wrapI (wrapI (wrapI (idx g (xs.take n)*wrapI ((g.length:Int) - 1))+rd xs n) - 1)=idx g (xs.take (n+1))∧wrapI ((n:Int)+1)=(n:Int)+1:=by
 have n8:=hg.n8;have n1:=hg.n1
 obtain⟨a0,a1⟩:=Zkj hg hx n (by omega) hz
 obtain⟨x0,x1⟩:=hx n (by omega) (by omega)
 have p:=Zi6 (a:=(g.length:Int) - 1) (by omega) (by omega) n (by omega)
 have b1:0≤idx g (xs.take n)*((g.length:Int) - 1):=Int.mul_nonneg a0 (by omega)
 have b2:idx g (xs.take n)*((g.length:Int) - 1)≤16807*7:=Int.mul_le_mul (by omega) (by omega) (by omega) (by omega)
 rw[w64 (x:=(g.length:Int) - 1) (by omega) (by omega),w64 (x:=idx g (xs.take n)*((g.length:Int) - 1)) (by omega) (by omega),w64 (x:=idx g (xs.take n)*((g.length:Int) - 1)+rd xs n) (by omega) (by omega),w64 (by omega) (by omega),w64 (by omega) (by omega),Zhx hn]
 exact⟨rfl,rfl⟩
theorem cell_ {g:List (List Int)} (hg:Grp g) {xs:List Int} (hx:AllIn g.length xs) (hl:xs.length≤4) :
  Za6.f g xs=some (ite_ (Zck xs) (idx g xs) (-1)):=by
 rw[Za6.f_eq]
 have:=scan xs.length (fun i=>Za6.l0 (idx g (xs.take i.toNat)) xs (xs.length:Int) i g) (fun j=>¬ rd xs j=0) (some (-1)) (fun i i0 i1 hz=>by
  obtain⟨n,rfl⟩:=Int.eq_ofNat_of_zero_le i0
  obtain⟨e1,e2⟩:=ZjL hg hx hl (n:=n) (by omega) hz
  refine⟨fun h => ?_,fun h => ?_⟩
  ·
   rw[Za6.l0_eq,Z7.f_eq,Option.bind_some,Int.toNat_natCast,e1,e2,show((n:Int)+1).toNat=n+1 by omega]
   ((with_reducible repeat (first|refine ZP (by first|assumption|omega|rfl|exact B_pos (by omega)) ?_|refine ZO (by first|assumption|omega|decide|exact B_not (by omega)) ?_|refine Zq (by first|assumption) ?_|dsimp only));first|done|(with_reducible rfl)|simp (disch:=omega) only[w64]|(show False;done))
  ·
   (rw[Za6.l0_eq])
   ((with_reducible repeat (first|refine ZP (by first|assumption|omega|rfl|exact B_pos (by omega)) ?_|refine ZO (by first|assumption|omega|decide|exact B_not (by omega)) ?_|refine Zq (by first|assumption) ?_|dsimp only));first|done|(with_reducible rfl)|simp (disch:=omega) only[w64]|(show False;done)))
 simp only[Int.toNat_zero,List.take_zero,Int.toNat_natCast,List.take_length]at this
 rcases this with ⟨h1,h2⟩|⟨j,j0,j1,_,h1,_,h2⟩
 ·
  have h1:Zck xs:=h1
  rw[ZbG h1,←show Za6.l0 (idx g []) xs (xs.length:Int) 0 g=Za6.l0 0 xs (xs.length:Int) 0 g from rfl,h2]
  (rw[Za6.l0_eq])
  ((with_reducible repeat (first|refine ZP (by first|assumption|omega|rfl|exact B_pos (by omega)) ?_|refine ZO (by first|assumption|omega|decide|exact B_not (by omega)) ?_|refine Zq (by first|assumption) ?_|dsimp only));first|done|(with_reducible rfl)|simp (disch:=omega) only[w64]|(show False;done))
 ·
  rw[ZbB fun q=>h1 (q j j0 j1)]
  exact h2
theorem ZeK {g:List (List Int)} (hg:Grp g) {m d:Int} {v:List Int} (hc:Co g m d v) {xs:List Int} (hx:AllIn g.length xs) (hl:(xs.length:Int)=d) (h:Zck xs):0≤idx g xs∧idx g xs < v.length:=by
 obtain⟨⟨d0,d1⟩,hv,ha⟩:=hc
 obtain⟨a0,a1⟩:=Zkj hg hx xs.length (by omega) h
 rw[List.take_length]at a0 a1
 have e:cells g d=((g.length:Int) - 1) ^ xs.length:=by unfold cells;rw[show d.toNat=xs.length by omega]
 omega
theorem at_ {g:List (List Int)} (hg:Grp g) {m d:Int} {v:List Int} (hc:Co g m d v) {xs:List Int} (hx:AllIn g.length xs) (hl:(xs.length:Int)=d) :
  Zax.f d v g xs=some (At g v xs):=by
 have hd:=hc.1
 have h1:=cell_ hg hx (by omega)
 rw[Zax.f_eq]
 unfold At
 by_cases h:Zck xs
 ·
  obtain⟨a0,a1⟩:=ZeK hg hc hx hl h
  rw[ZbG h]at h1 ⊢
  ((with_reducible repeat (first|refine ZP (by first|assumption|omega|rfl|exact B_pos (by omega)) ?_|refine ZO (by first|assumption|omega|decide|exact B_not (by omega)) ?_|refine Zq (by first|assumption) ?_|dsimp only));first|done|(with_reducible rfl)|simp (disch:=omega) only[w64]|(show False;done))
 ·
  rw[ZbB h]at h1 ⊢
  ((with_reducible repeat (first|refine ZP (by first|assumption|omega|rfl|exact B_pos (by omega)) ?_|refine ZO (by first|assumption|omega|decide|exact B_not (by omega)) ?_|refine Zq (by first|assumption) ?_|dsimp only));first|done|(with_reducible rfl)|simp (disch:=omega) only[w64]|(show False;done))
theorem At_bd {g:List (List Int)} (hg:Grp g) {m d:Int} {v:List Int} (m0:0 < m) (hc:Co g m d v) {xs:List Int} (hx:AllIn g.length xs) (hl:(xs.length:Int)=d):0≤At g v xs∧At g v xs < m:=by
 unfold At
 by_cases h:Zck xs
 ·
  obtain⟨a0,a1⟩:=ZeK hg hc hx hl h
  rw[ZbG h]
  exact hc.2.2 _ a0 a1
 ·
  rw[ZbB h];omega
end Go.Proofs.YthmcpmnhdbeahaaGreat.V
namespace Go.Proofs.YthmcpmnhdbeahaaGreat.V
open Go.RowKit Go.Proofs.YthmcpmnhdbeahaaGreat.D Go.Proofs.YthmcpmnhdbeahaaGreat.P
theorem Zk8 {g:List (List Int)} (hg:Grp g) {a:Int} (a0:0≤a) (a1:a < g.length) :
  ∃b:Int,0≤b∧b < g.length∧T g a b=0∧Zaf.f g a=some b∧ZU.f g a=some b:=by
 have hm:=Zcp
 have n8:=hg.n8
 have lr:=hg.row a a0 a1
 have hlr:(row g a).length≤maxLen:=Zbo (by omega)
 rcases index_ (row g a) 0 hlr with ⟨h,_⟩|⟨b,b0,b1,hf,hb,e⟩
 ·
  obtain⟨b,b0,b1,hb⟩:=hg.inv a a0 a1
  exact absurd hb (h b b0 (by omega))
 refine⟨b,b0,by omega,hb,?_,?_⟩
 ·
  rw[Zaf.f_eq]
  ((with_reducible repeat (first|refine ZP (by first|assumption|omega|rfl|exact B_pos (by omega)) ?_|refine ZO (by first|assumption|omega|decide|exact B_not (by omega)) ?_|refine Zq (by first|assumption) ?_|dsimp only));first|done|(with_reducible rfl)|simp (disch:=omega) only[w64]|(show False;done))
 ·
  rw[ZU.f_eq]
  obtain⟨n,rfl⟩:=Int.eq_ofNat_of_zero_le b0
  have:=up n (fun i=>ZU.l0 a (i:Int) g) (fun i hi=>by
   have h2:T g a i≠0:=hf i (by omega) (by omega)
   have hw:wrapI ((i:Int)+1)=((i+1:Nat):Int):=by rw[w64 (by omega) (by omega)];omega
   (rw[ZU.l0_eq,Zay.f_eq,Option.bind_some,hw])
   ((with_reducible repeat (first|refine ZP (by first|assumption|omega|rfl|exact B_pos (by omega)) ?_|refine ZO (by first|assumption|omega|decide|exact B_not (by omega)) ?_|refine Zq (by first|assumption) ?_|dsimp only));first|done|(with_reducible rfl)|simp (disch:=omega) only[w64]|(show False;done)))
  simp only[Int.natCast_zero]at this
  have hb:T g a n=0:=hb
  rw[this,ZU.l0_eq,Zay.f_eq,Option.bind_some]
  ((with_reducible repeat (first|refine ZP (by first|assumption|omega|rfl|exact B_pos (by omega)) ?_|refine ZO (by first|assumption|omega|decide|exact B_not (by omega)) ?_|refine Zq (by first|assumption) ?_|dsimp only));first|done|(with_reducible rfl)|simp (disch:=omega) only[w64]|(show False;done))
def lst (b:Int):Nat→Int→List Int
 | 0,_=>[]
 | n+1,i=>lst b n (i / b)++[i%b+1]
theorem Zd4 (b:Int):∀n i,(lst b n i).length=n:=by
 intro n
 induction n with
 | zero=>intro i;rfl
 | succ n ih=>intro i;simp[lst,ih]
theorem Zlb {b:Int} (hb:0 < b):∀n i,∀x∈lst b n i,1≤x∧x < b+1:=by
 intro n
 induction n with
 | zero=>intro i x hx;simp[lst]at hx
 | succ n ih =>
  intro i x hx
  have m0:=Int.emod_nonneg i (show b≠0 by omega)
  have m1:=Int.emod_lt_of_pos i hb
  rcases List.mem_append.1 hx with h|h
  ·
   exact ih _ x h
  ·
   rw[List.mem_singleton]at h;omega
theorem ZhH (n:Nat) (t:List Int) (x:Int):(List.replicate (n+1) 0++t).set n x=List.replicate n 0++(x :: t):=by
 rw[List.replicate_succ', List.append_assoc,List.set_append,if_neg (by simp)]
 simp
theorem Zla {g:List (List Int)} (hg:Grp g) (n:Nat) (h2:n=0∨2≤g.length) (hn:n≤4) {i:Int} (i0:0≤i) (i1:i≤16807) :
  ZaQ.f g (n:Int) i=some (lst ((g.length:Int) - 1) n i)∧Za8.f g (n:Int) i=some (lst ((g.length:Int) - 1) n i):=by
 have n8:=hg.n8;have n1:=hg.n1
 obtain⟨b,hb⟩:∃b:Int,b=(g.length:Int) - 1:=⟨_,rfl⟩
 have hw0:wrapI ((g.length:Int) - 1)=b:=by rw[hb];exact w64 (by omega) (by omega)
 rw[←hb]
 have b1:n=0∨1≤b:=by omega
 have b7:b≤7:=by omega
 have fact:∀(n:Nat) (i:Int),n≤4→1≤b→0≤i→i≤16807→wrapI (Int.tdiv i b)=i / b∧wrapI (1+Int.tmod i b)=i%b+1∧wrapI (Int.tmod i b+1)=i%b+1∧wrapI ((n:Int) - 1)=(n:Int) - 1∧0≤i / b∧i / b≤16807:=by
  intro n i hn b1 i0 i1
  have m0:=Int.emod_nonneg i (show b≠0 by omega)
  have m1:=Int.emod_lt_of_pos i (show 0 < b by omega)
  have d0:0≤i / b:=Int.ediv_nonneg i0 (by omega)
  have d1:i / b≤i:=Int.ediv_le_self _ i0
  rw[Zeb i0,Zbz i0]
  exact⟨w64 (by omega) (by omega),by rw[w64 (by omega) (by omega)];omega,w64 (by omega) (by omega),w64 (by omega) (by omega),d0,by omega⟩
 have hwn:wrapI ((n:Int) - 1)=(n:Int) - 1:=w64 (by omega) (by omega)
 constructor
 ·
  rw[ZaQ.f_eq,Z7.f_eq,Option.bind_some,hw0,hwn,Int.toNat_natCast]
  (with_reducible repeat (first|refine ZP (by first|assumption|omega|rfl|exact B_pos (by omega)) ?_|refine ZO (by first|assumption|omega|decide|exact B_not (by omega)) ?_|refine Zq (by first|assumption) ?_|dsimp only))
  suffices H:∀(n:Nat) (i:Int) (t:List Int),n≤4→(n=0∨1≤b)→0≤i→i≤16807→ZaQ.l0 i b ((n:Int) - 1) (List.replicate n 0++t)=some (lst b n i++t)by
   simpa using H n i [] hn b1 i0 i1
  intro n
  induction n with
  | zero=>intro i t _ _ _ _;rw[ZaQ.l0_eq];(with_reducible repeat (first|refine ZP (by first|assumption|omega|rfl|exact B_pos (by omega)) ?_|refine ZO (by first|assumption|omega|decide|exact B_not (by omega)) ?_|refine Zq (by first|assumption) ?_|dsimp only));rfl
  | succ n ih =>
   intro i t hn b1 i0 i1
   obtain⟨f1,f2,f3,f5,f6,f7⟩:=fact n i (by omega) (by omega) i0 i1
   have h:=ih (i / b) ((i%b+1) :: t) (by omega) (by omega) f6 f7
   have e:((n+1:Nat):Int) - 1=(n:Int):=by omega
   have l1:(List.replicate (n+1) (0:Int)++t).length=n+1+t.length:=by rw[List.length_append,List.length_replicate]
   rw[e,ZaQ.l0_eq,f1,f2,f5,Int.toNat_natCast,ZhH]
   (with_reducible repeat (first|refine ZP (by first|assumption|omega|rfl|exact B_pos (by omega)) ?_|refine ZO (by first|assumption|omega|decide|exact B_not (by omega)) ?_|refine Zq (by first|assumption) ?_|dsimp only))
   rw[h,lst,List.append_assoc,List.singleton_append]
 ·
  rw[Za8.f_eq,Zay.f_eq,Option.bind_some,hw0,hwn,Int.toNat_natCast]
  (with_reducible repeat (first|refine ZP (by first|assumption|omega|rfl|exact B_pos (by omega)) ?_|refine ZO (by first|assumption|omega|decide|exact B_not (by omega)) ?_|refine Zq (by first|assumption) ?_|dsimp only))
  suffices H:∀(n:Nat) (i:Int) (t:List Int),n≤4→(n=0∨1≤b)→0≤i→i≤16807→Za8.l0 i b ((n:Int) - 1) (List.replicate n 0++t)=some (lst b n i++t)by
   simpa using H n i [] hn b1 i0 i1
  intro n
  induction n with
  | zero=>intro i t _ _ _ _;rw[Za8.l0_eq];(with_reducible repeat (first|refine ZP (by first|assumption|omega|rfl|exact B_pos (by omega)) ?_|refine ZO (by first|assumption|omega|decide|exact B_not (by omega)) ?_|refine Zq (by first|assumption) ?_|dsimp only));rfl
  | succ n ih =>
   intro i t hn b1 i0 i1
   obtain⟨f1,f2,f3,f5,f6,f7⟩:=fact n i (by omega) (by omega) i0 i1
   have h:=ih (i / b) ((i%b+1) :: t) (by omega) (by omega) f6 f7
   have e:((n+1:Nat):Int) - 1=(n:Int):=by omega
   have l1:(List.replicate (n+1) (0:Int)++t).length=n+1+t.length:=by rw[List.length_append,List.length_replicate]
   rw[e,Za8.l0_eq,f1,f3,f5,Int.toNat_natCast,ZhH]
   (with_reducible repeat (first|refine ZP (by first|assumption|omega|rfl|exact B_pos (by omega)) ?_|refine ZO (by first|assumption|omega|decide|exact B_not (by omega)) ?_|refine Zq (by first|assumption) ?_|dsimp only))
   rw[h,lst,List.append_assoc,List.singleton_append]
theorem cells_two {g:List (List Int)} (hg:Grp g) {n:Nat} (hc:0 < cells g n):n=0∨2≤g.length:=by
 have n1:=hg.n1
 by_cases h:n=0
 ·
  exact .inl h
 by_cases h2:2≤g.length
 ·
  exact .inr h2
 ·
  have:(g.length:Int) - 1=0:=by omega
  have e:cells g (n:Int)=0:=by unfold cells;rw[this,Int.toNat_natCast];exact Int.zero_pow h
  omega
theorem Ziq {g:List (List Int)} (hg:Grp g) {n i:Nat} (hn:n≤4) (hi:(i:Int) < cells g n):ZaQ.f g (n:Int) i=some (lst ((g.length:Int) - 1) n i)∧Za8.f g (n:Int) i=some (lst ((g.length:Int) - 1) n i):=by
 have hb:=ZdI hg (d:=(n:Int)) (by omega)
 exact Zla hg n (cells_two hg (by omega)) hn (by omega) (by omega)
theorem ZiO {g:List (List Int)} (hg:Grp g) {n i:Nat} (hi:(i:Int) < cells g n):AllIn g.length (lst ((g.length:Int) - 1) n i)∧Zck (lst ((g.length:Int) - 1) n i):=by
 have n1:=hg.n1
 have H:∀x∈lst ((g.length:Int) - 1) n i,1≤x∧x < g.length:=by
  rcases cells_two hg (show 0 < cells g n by omega)with h|g2
  ·
   subst h;intro x hx;simp[lst]at hx
  ·
   intro x hx
   have:=Zlb (b:=(g.length:Int) - 1) (by omega) n i x hx
   omega
 exact⟨Zct fun x hx=>by have:=H x hx;omega,fun j j0 j1 h=>by have:=H _ (Zce j0 j1);omega⟩
theorem ZhP (G:Nat→Int) (n i:Nat) (h:i < n):((List.range i).map G++List.replicate (n - i) 0).set i (G i)=(List.range (i+1)).map G++List.replicate (n - (i+1)) 0:=by
 rw[List.set_append,if_neg (by simp),List.length_map,List.length_range,Nat.sub_self,show n - i=(n - (i+1))+1 by omega,List.replicate_succ,List.set_cons_zero,List.range_succ,List.map_append]
 simp
theorem Zip (G:Nat→Int) (n i:Nat) (h:i≤n):((List.range i).map G++List.replicate (n - i) 0).length=n:=by rw[List.length_append,List.length_map,List.length_range,List.length_replicate];omega
theorem ZkN {a m:Int} (m0:0 < m) (m1:m≤1000000):Int.tmod (wrapI (Int.tmod a m+m)) m=a%m:=by
 have t0:=Int.tmod_lt_of_pos a m0
 have t1 : -m < Int.tmod a m:=Int.lt_tmod_of_pos a m0
 have hq:=Int.mul_tdiv_add_tmod a m
 have h5:(m*a.tdiv m+a.tmod m)%m=a.tmod m%m:=by rw[Int.add_comm,Int.add_mul_emod_self_left]
 rw[hq]at h5
 rw[w64 (by omega) (by omega),Int.tmod_eq_emod_of_nonneg (show 0≤Int.tmod a m+m by omega),Int.add_emod_right,←h5]
theorem zero_ {g:List (List Int)} (hg:Grp g) {n:Nat} (hn:n≤4):Zbj.f g (n:Int)=some ((n:Int),List.replicate (cells g n).toNat 0):=by
 have hb:=ZdI hg (d:=(n:Int)) (by omega)
 have hc:=Zfa hg (d:=(n:Int)) (by omega) (by omega)
 rw[Zbj.f_eq]
 ((with_reducible repeat (first|refine ZP (by first|assumption|omega|rfl|exact B_pos (by omega)) ?_|refine ZO (by first|assumption|omega|decide|exact B_not (by omega)) ?_|refine Zq (by first|assumption) ?_|dsimp only));first|done|(with_reducible rfl)|simp (disch:=omega) only[w64]|(show False;done))
theorem told {g:List (List Int)} (hg:Grp g) {m:Int} (m2:2≤m) (m12:m≤12) {n:Nat} (hn:n≤4) {F:List Int→Option Int} {G:Nat→Int} (hF:∀i:Nat,(i:Int) < cells g n→F (lst ((g.length:Int) - 1) n i)=some (G i)) :
  Za9.f g m (n:Int) F=some ((n:Int),(List.range (cells g n).toNat).map fun i=>G i%m):=by
 have hb:=ZdI hg (d:=(n:Int)) (by omega)
 have hz:=zero_ hg hn
 obtain⟨N,hN⟩:∃N,N=(cells g n).toNat:=⟨_,rfl⟩
 rw[Za9.f_eq,hz,Option.bind_some,←hN]
 have:=up N (fun j=>Za9.l0 m (n:Int) F (N:Int) (j:Int) g 0 (n:Int) ((List.range j).map (fun i=>G i%m)++List.replicate (N - j) 0)) (fun j h=>by
  have hw:wrapI ((j:Int)+1)=((j+1:Nat):Int):=by rw[w64 (by omega) (by omega)];omega
  have f:=hF j (by omega)
  have hl:=(Ziq hg hn (i:=j) (by omega)).1
  have l1:=Zip (fun i=>G i%m) N j (by omega)
  have e:=ZkN (a:=G j) (m:=m) (by omega) (by omega)
  rw[←ZhP (fun i=>G i%m) N j h,Za9.l0_eq,hw,hl,Option.bind_some,f,Option.bind_some,e,Int.toNat_natCast]
  ((with_reducible repeat (first|refine ZP (by first|assumption|omega|rfl|exact B_pos (by omega)) ?_|refine ZO (by first|assumption|omega|decide|exact B_not (by omega)) ?_|refine Zq (by first|assumption) ?_|dsimp only));first|done|(with_reducible rfl)|simp (disch:=omega) only[w64]|(show False;done)))
 simp only[Int.natCast_zero,List.range_zero,List.map_nil,List.nil_append,Nat.sub_zero,Nat.sub_self,List.replicate_zero,List.append_nil]at this
 simp only[List.length_replicate]
 rw[this,Za9.l0_eq]
 ((with_reducible repeat (first|refine ZP (by first|assumption|omega|rfl|exact B_pos (by omega)) ?_|refine ZO (by first|assumption|omega|decide|exact B_not (by omega)) ?_|refine Zq (by first|assumption) ?_|dsimp only));first|done|(with_reducible rfl)|simp (disch:=omega) only[w64]|(show False;done))
theorem counting {n:Nat} (hn:n≤1048576):ZQ.f (n:Int)=some ((List.range n).map fun i:Nat=>(i:Int)):=by
 rw[ZQ.f_eq]
 have:=up n (fun j=>ZQ.l0 (n:Int) (j:Int) ((List.range j).map fun i:Nat=>(i:Int))) (fun j hj=>by
  have l1:((List.range j).map fun i:Nat=>(i:Int)).length=j:=by rw[List.length_map,List.length_range]
  have l2:∀x:Int,([x]:List Int).length=1:=fun _=>rfl
  rw[List.range_succ,List.map_append,List.map_singleton,ZQ.l0_eq,l1,l2,wn (j:=j) (by omega)]
  ((with_reducible repeat (first|refine ZP (by first|assumption|omega|rfl|exact B_pos (by omega)) ?_|refine ZO (by first|assumption|omega|decide|exact B_not (by omega)) ?_|refine Zq (by first|assumption) ?_|dsimp only));first|done|(with_reducible rfl)|simp (disch:=omega) only[w64]|(show False;done)))
 simp only[Int.natCast_zero,List.range_zero,List.map_nil]at this
 rw[this,ZQ.l0_eq]
 ((with_reducible repeat (first|refine ZP (by first|assumption|omega|rfl|exact B_pos (by omega)) ?_|refine ZO (by first|assumption|omega|decide|exact B_not (by omega)) ?_|refine Zq (by first|assumption) ?_|dsimp only));first|done|(with_reducible rfl)|simp (disch:=omega) only[w64]|(show False;done))
end Go.Proofs.YthmcpmnhdbeahaaGreat.V
namespace Go.Proofs.YthmcpmnhdbeahaaGreat.V
open Go.RowKit Go.Proofs.YthmcpmnhdbeahaaGreat.D Go.Proofs.YthmcpmnhdbeahaaGreat.P
theorem indexFuncI {F:Int→Option Bool} {p:Int→Bool} (xs:List Int) (hl:xs.length≤1048576) (hF:∀x∈xs,F x=some (p x)) :
  ((∀x∈xs,p x=false)∧Za.f xs F=some (-1))∨∃i:Nat,i < xs.length∧p (rd xs i)=true∧(∀x∈xs.take i,p x=false)∧Za.f xs F=some (i:Int):=by
 rw[Za.f_eq]
 suffices H:∀d m:Nat,m+d=xs.length→(∀x∈xs.take m,p x=false)→((∀x∈xs,p x=false)∧Za.l0 xs F (xs.length:Int) m=some (-1))∨∃i:Nat,i < xs.length∧p (rd xs i)=true∧(∀x∈xs.take i,p x=false)∧Za.l0 xs F (xs.length:Int) m=some (i:Int)from
  H xs.length 0 (by omega) (by simp)
 intro d
 induction d with
 | zero =>
  intro m hd hp
  obtain rfl:m=xs.length:=by omega
  rw[List.take_length]at hp
  refine .inl ⟨hp,?_⟩
  rw[Za.l0_eq]
  ((with_reducible repeat (first|refine ZP (by first|assumption|omega|rfl|exact B_pos (by omega)) ?_|refine ZO (by first|assumption|omega|decide|exact B_not (by omega)) ?_|refine Zq (by first|assumption) ?_|dsimp only));first|done|(with_reducible rfl)|simp (disch:=omega) only[w64]|(show False;done))
 | succ d ih =>
  intro m hd hp
  have hf:=hF (rd xs m) (Zce (by omega) (by omega))
  cases h:p (rd xs m)with
  | true =>
   rw[h]at hf
   refine .inr ⟨m,by omega,h,hp,?_⟩
   rw[Za.l0_eq]
   ((with_reducible repeat (first|refine ZP (by first|assumption|omega|rfl|exact B_pos (by omega)) ?_|refine ZO (by first|assumption|omega|decide|exact B_not (by omega)) ?_|refine Zq (by first|assumption) ?_|dsimp only));first|done|(with_reducible rfl)|simp (disch:=omega) only[w64]|(show False;done))
  | false =>
   rw[h]at hf
   have st:Za.l0 xs F (xs.length:Int) m=Za.l0 xs F (xs.length:Int) ((m+1:Nat):Int):=by
    rw[Za.l0_eq,wn (j:=m) (by omega)]
    ((with_reducible repeat (first|refine ZP (by first|assumption|omega|rfl|exact B_pos (by omega)) ?_|refine ZO (by first|assumption|omega|decide|exact B_not (by omega)) ?_|refine Zq (by first|assumption) ?_|dsimp only));first|done|(with_reducible rfl)|simp (disch:=omega) only[w64]|(show False;done))
   rw[st]
   refine ih (m+1) (by omega) fun x hx => ?_
   rw[Zdf (by omega)]at hx
   rcases List.mem_append.1 hx with hx|hx
   ·
    exact hp x hx
   ·
    rw[List.mem_singleton.1 hx];exact h
theorem Zfe {F:Int→Option Bool} {p:Int→Bool} (xs:List Int) (hl:xs.length≤1048576) (hF:∀x∈xs,F x=some (p x)):Zd.f xs F=some (xs.filter fun x => !p x):=by
 have hi:=indexFuncI (F:=fun z0=>(F z0).map fun z=>z) (p:=p) xs hl (fun x hx=>by
  show Option.map _ (F x)=_
  rw[hF x hx];rfl)
 rw[Zd.f_eq]
 rcases hi with ⟨h,e⟩|⟨i,i1,hpi,hp,e⟩
 ·
  rw[e,Option.bind_some,if_pos rfl,List.filter_eq_self.2 fun x hx=>by rw[h x hx];rfl]
 rw[e,Option.bind_some,if_neg (by omega),wn (j:=i) (by omega)]
 have fil:∀m:Nat,(xs.take m).filter (fun x => !p x)=(xs.take m).filter (fun x => !p x):=fun _=>rfl
 have H:∀d m:Nat,m+d=xs.length→∀(k:Nat) (r:List Int),k < m→r.length=xs.length→r.take k=(xs.take m).filter (fun x => !p x)→r.drop m=xs.drop m→Zd.l0 F (k:Int) (m:Int) r=some (xs.filter fun x => !p x):=by
  intro d
  induction d with
  | zero =>
   intro m hd k r hk hr h1 _
   obtain rfl:m=xs.length:=by omega
   rw[List.take_length]at h1
   have l1:(r.take k++List.replicate (r.length - k) 0).length=xs.length:=by rw[List.length_append,List.length_take,List.length_replicate];omega
   have e2:(r.take k++List.replicate (r.length - k) 0).take k=r.take k:=by
    rw[List.take_append_of_le_length (by rw[List.length_take];omega),List.take_take,Nat.min_self]
   rw[Zd.l0_eq,Int.toNat_natCast,l1,e2,←h1]
   ((with_reducible repeat (first|refine ZP (by first|assumption|omega|rfl|exact B_pos (by omega)) ?_|refine ZO (by first|assumption|omega|decide|exact B_not (by omega)) ?_|refine Zq (by first|assumption) ?_|dsimp only));first|done|(with_reducible rfl)|simp (disch:=omega) only[w64]|(show False;done))
  | succ d ih =>
   intro m hd k r hk hr h1 h2
   have hrx:rd r (m:Int)=rd xs (m:Int):=by
    have hm1:m < r.length:=by omega
    have hm2:m < xs.length:=by omega
    have:=congrArg List.head? h2
    rw[ZfF hm1,ZfF hm2]at this
    simpa using this
   have hd2:r.drop (m+1)=xs.drop (m+1):=by
    have hm1:m < r.length:=by omega
    have hm2:m < xs.length:=by omega
    have:=congrArg List.tail h2
    rw[ZfF hm1,ZfF hm2]at this
    simpa using this
   have hf:=hF (rd xs m) (Zce (by omega) (by omega))
   have tk:=Zdf (xs:=xs) (m:=m) (by omega)
   rw[Zd.l0_eq,hrx,hf,Option.bind_some,wn (j:=m) (by omega),wn (j:=k) (by omega),Int.toNat_natCast]
   cases h:p (rd xs m)with
   | true =>
    have:=ih (m+1) (by omega) k r (by omega) hr (by rw[tk,List.filter_append,h1];simp[h]) hd2
    (with_reducible repeat (first|refine ZP (by first|assumption|omega|rfl|exact B_pos (by omega)) ?_|refine ZO (by first|assumption|omega|decide|exact B_not (by omega)) ?_|refine Zq (by first|assumption) ?_|dsimp only))
    exact this
   | false =>
    have:=ih (m+1) (by omega) (k+1) (r.set k (rd xs m)) (by omega) (by rw[List.length_set,hr]) (by
     rw[tk,List.filter_append,←h1,List.take_succ_eq_append_getElem (by rw[List.length_set];omega),List.getElem_set_self,List.take_set_of_le (Nat.le_refl _)]
     simp[h]) (by rw[List.drop_set_of_lt (by omega)];exact hd2)
    (with_reducible repeat (first|refine ZP (by first|assumption|omega|rfl|exact B_pos (by omega)) ?_|refine ZO (by first|assumption|omega|decide|exact B_not (by omega)) ?_|refine Zq (by first|assumption) ?_|dsimp only))
    exact this
 refine H (xs.length - (i+1)) (i+1) (by omega) i xs (by omega) rfl ?_ rfl
 rw[Zdf i1,List.filter_append,List.filter_eq_self.2 fun x hx=>by rw[hp x hx];rfl]
 simp[hpi]
def kept (n:Nat) (p:Nat→Bool):List Int:=((List.range n).filter p).map fun i:Nat=>(i:Int)
theorem ZdM (n:Nat) (p:Nat→Bool):kept (n+1) p=kept n p++(if p n=true then [(n:Int)]else []):=by
 unfold kept
 rw[List.range_succ,List.filter_append,List.map_append,List.filter_cons,List.filter_nil]
 split <;> rfl
theorem Zeu (n:Nat) (p:Nat→Bool):(kept n p).length≤n:=by
 rw[kept,List.length_map]
 exact Nat.le_trans (List.length_filter_le _ _) (by simp)
theorem those {g:List (List Int)} (hn:g.length≤1048576) {F:Int→Option Bool} {p:Nat→Bool} (hF:∀i:Nat,i < g.length→F (i:Int)=some (p i)):ZaC.f g F=some (kept g.length p):=by
 have hd:=Zfe (F:=fun z0=>(Zah.f z0 (fun u0=>(F u0).map fun z=>z)).map fun z=>z) (p:=fun x => !p x.toNat) ((List.range g.length).map fun i:Nat=>(i:Int)) (by rw[List.length_map,List.length_range];exact hn) (fun x hx=>by
  obtain⟨i,hi,rfl⟩:=List.mem_map.1 hx
  have hi:=List.mem_range.1 hi
  show Option.map _ (Zah.f (i:Int) _)=_
  rw[Zah.f_eq,hF i hi]
  simp)
 rw[ZaC.f_eq,Z7.f_eq,Option.bind_some,counting hn,Option.bind_some,hd,Option.bind_some,kept,List.filter_map]
 congr 2
 refine List.filter_congr fun i _ => ?_
 simp
end Go.Proofs.YthmcpmnhdbeahaaGreat.V
set_option maxHeartbeats 4000000
namespace Go.Proofs.YthmcpmnhdbeahaaGreat.V
open Go.RowKit Go.Proofs.YthmcpmnhdbeahaaGreat.D
def chkG (g:List (List Int)):Bool :=
 decide (1≤g.length) && decide (g.length≤8) && (List.range g.length).all fun a=>decide ((row g (a:Int)).length=g.length) && decide (T g 0 (a:Int)=a) && decide (T g (a:Int) 0=a) && ((List.range g.length).any fun b=>decide (T g (a:Int) (b:Int)=0)) &&
  (List.range g.length).all fun b=>decide (0≤T g (a:Int) (b:Int)) && decide (T g (a:Int) (b:Int) < g.length) && (List.range g.length).all fun c=>decide (T g (T g (a:Int) (b:Int)) (c:Int)=T g (a:Int) (T g (b:Int) (c:Int)))
theorem ZcL {g:List (List Int)} (h:chkG g=true):Grp g:=by
 unfold chkG at h
 simp only[Bool.and_eq_true,decide_eq_true_eq,List.all_eq_true,List.any_eq_true,List.mem_range]at h
 obtain⟨⟨h1,h2⟩,h3⟩:=h
 have to:∀{P:Int→Prop},(∀a:Nat,a < g.length→P (a:Int))→∀a:Int,0≤a→a < g.length→P a:=fun {P} H a a0 a1=>by
  have:=H a.toNat (by omega)
  rwa[Int.toNat_of_nonneg a0]at this
 refine⟨h1,h2,to fun a ha=>(h3 a ha).1.1.1.1,fun a b a0 a1 b0 b1 => ?_,to fun a ha=>(h3 a ha).1.1.1.2,to fun a ha=>(h3 a ha).1.1.2,fun a b c a0 a1 b0 b1 c0 c1 => ?_,to fun a ha => ?_⟩
 ·
  refine to (P:=fun a=>∀b:Int,0≤b→b < g.length→0≤T g a b∧T g a b < g.length) (fun a ha=>to fun b hb=>(((h3 a ha).2 b hb).1)) a a0 a1 b b0 b1
 ·
  refine to (P:=fun a=>∀b:Int,0≤b→b < g.length→∀c:Int,0≤c→c < g.length→T g (T g a b) c=T g a (T g b c)) (fun a ha=>to (P:=fun b=>∀c:Int,0≤c→c < g.length→T g (T g (a:Int) b) c=T g (a:Int) (T g b c)) fun b hb=>to fun c hc=>((h3 a ha).2 b hb).2 c hc) a a0 a1 b b0 b1 c c0 c1
 ·
  obtain⟨b,hb,e⟩:=(h3 a ha).1.2
  exact⟨(b:Int),by omega,by omega,e⟩
def cyc (n:Nat):List (List Int):=(List.range n).map fun a:Nat=>(List.range n).map fun b:Nat=>((a:Int)+(b:Int))%(n:Int)
def prd (g h:List (List Int)):List (List Int):=(List.range (g.length*h.length)).map fun x:Nat=>(List.range (g.length*h.length)).map fun y:Nat=>(h.length:Int)*T g ((x:Int) / (h.length:Int)) ((y:Int) / (h.length:Int))+T h ((x:Int)%(h.length:Int)) ((y:Int)%(h.length:Int))
def twd (n:Nat) (more:Int):List (List Int):=(List.range (2*n)).map fun a:Nat=>(List.range (2*n)).map fun b:Nat=>(n:Int)*(((a:Int) / n+(b:Int) / n)%2)+((if(b:Int) / n=1 then(b:Int)%n - (a:Int)%n else(a:Int)%n+(b:Int)%n)+more*((a:Int) / n)*((b:Int) / n))%(n:Int)
theorem ZgR:∀n:Nat,n≤8→1≤n→chkG (cyc n)=true:=by decide +kernel
theorem ZiS:chkG (prd (cyc 2) (cyc 2))=true∧chkG (prd (cyc 2) (prd (cyc 2) (cyc 2)))=true∧chkG (prd (cyc 2) (cyc 4))=true∧chkG (twd 3 0)=true∧chkG (twd 4 0)=true∧chkG (twd 4 2)=true:=by decide +kernel
structure Ordr (n:Nat) (p:List Int):Prop where
 len:p.length=n
 ent:∀i:Nat,i < n→0≤rd p (i:Int)∧rd p (i:Int) < n
 inj:∀i j:Nat,i < n→j < n→rd p (i:Int)=rd p (j:Int)→i=j
theorem nd_le {α : Type} [DecidableEq α]:∀{l m:List α},l.Nodup→(∀x∈l,x∈m)→l.length≤m.length
 | [],m,_,_=>Nat.zero_le _
 | x :: l,m,hn,hs=>by
  rw[List.nodup_cons]at hn
  have hx:=hs x List.mem_cons_self
  have:=nd_le (l:=l) (m:=m.erase x) hn.2 fun y hy=>(List.mem_erase_of_ne (fun e=>hn.1 (by rw[←e];exact hy))).2 (hs y (List.mem_cons_of_mem _ hy))
  rw[List.length_erase_of_mem hx]at this
  have:=List.length_pos_of_mem hx
  rw[List.length_cons]
  omega
theorem ZjM {n:Nat} {f:Nat→Nat} (hb:∀i,i < n→f i < n) (hi:∀i j,i < n→j < n→f i=f j→i=j):∀k,k < n→∃i,i < n∧f i=k:=by
 intro k hk
 apply Classical.byContradiction
 intro hno
 have hnd:((List.range n).map f).Nodup:=by
  rw[List.Nodup,List.pairwise_map]
  exact List.Pairwise.imp_of_mem (fun {a b} ha hb h e=>h (hi a b (List.mem_range.1 ha) (List.mem_range.1 hb) e)) (List.nodup_range (n:=n))
 have:=nd_le (m:=(List.range n).erase k) hnd (fun x hx=>by
  obtain⟨i,hi', rfl⟩:=List.mem_map.1 hx
  exact(List.mem_erase_of_ne (fun e=>hno ⟨i,List.mem_range.1 hi', e⟩)).2 (List.mem_range.2 (hb i (List.mem_range.1 hi'))))
 rw[List.length_erase_of_mem (List.mem_range.2 hk),List.length_map,List.length_range]at this
 omega
theorem Ordr.onto {n:Nat} {p:List Int} (h:Ordr n p) {k:Int} (k0:0≤k) (k1:k < n):∃i:Nat,i < n∧rd p (i:Int)=k:=by
 obtain⟨i,hi,e⟩:=ZjM (n:=n) (f:=fun i=>(rd p (i:Int)).toNat) (fun i hi=>by have:=h.ent i hi;omega) (fun i j hi hj e=>h.inj i j hi hj (by have:=h.ent i hi;have:=h.ent j hj;omega)) k.toNat (by omega)
 exact⟨i,hi,by have:=h.ent i hi;omega⟩
theorem ZiJ {g g' : List (List Int)} (hg:Grp g) {p:List Int} (hp:Ordr g.length p) (h0:rd p 0=0) (hl:g'.length=g.length) (hr:∀a:Nat,a < g.length→(row g' (a:Int)).length=g.length) (hT:∀a b:Nat,a < g.length→b < g.length→T g' (rd p (a:Int)) (rd p (b:Int))=rd p (T g (a:Int) (b:Int))):Grp g' := by
 have n1:=hg.n1;have n8:=hg.n8
 have hTi:∀a b:Int,0≤a→a < g.length→0≤b→b < g.length→T g' (rd p a) (rd p b)=rd p (T g a b):=fun a b a0 a1 b0 b1=>by
  have:=hT a.toNat b.toNat (by omega) (by omega)
  rwa[Int.toNat_of_nonneg a0,Int.toNat_of_nonneg b0]at this
 have hon:∀k:Int,0≤k→k < g'.length→∃i:Int,(0≤i∧i < g.length)∧k=rd p i:=fun k k0 k1=>by
  obtain⟨i,hi,e⟩:=hp.onto k0 (by omega)
  exact⟨(i:Int),by omega,e.symm⟩
 have hen:∀i:Int,0≤i→i < g.length→0≤rd p i∧rd p i < g.length:=fun i i0 i1=>by
  have:=hp.ent i.toNat (by omega)
  rwa[Int.toNat_of_nonneg i0]at this
 refine⟨by omega,by omega,fun a a0 a1 => ?_,fun a b a0 a1 b0 b1 => ?_,fun a a0 a1 => ?_,fun a a0 a1 => ?_,fun a b c a0 a1 b0 b1 c0 c1 => ?_,fun a a0 a1 => ?_⟩
 ·
  have:=hr a.toNat (by omega)
  rw[Int.toNat_of_nonneg a0]at this
  omega
 ·
  obtain⟨i,⟨i0,i1⟩,rfl⟩:=hon a a0 a1
  obtain⟨j,⟨j0,j1⟩,rfl⟩:=hon b b0 b1
  obtain⟨t0,t1⟩:=hg.ent i j i0 i1 j0 j1
  rw[hTi i j i0 i1 j0 j1,hl]
  exact hen _ t0 t1
 ·
  obtain⟨i,⟨i0,i1⟩,rfl⟩:=hon a a0 a1
  have:=hTi 0 i (by omega) (by omega) i0 i1
  rw[h0,hg.one i i0 i1]at this
  exact this
 ·
  obtain⟨i,⟨i0,i1⟩,rfl⟩:=hon a a0 a1
  have:=hTi i 0 i0 i1 (by omega) (by omega)
  rw[h0,hg.one' i i0 i1]at this
  exact this
 ·
  obtain⟨i,⟨i0,i1⟩,rfl⟩:=hon a a0 a1
  obtain⟨j,⟨j0,j1⟩,rfl⟩:=hon b b0 b1
  obtain⟨k,⟨k0,k1⟩,rfl⟩:=hon c c0 c1
  obtain⟨s0,s1⟩:=hg.ent i j i0 i1 j0 j1
  obtain⟨t0,t1⟩:=hg.ent j k j0 j1 k0 k1
  rw[hTi i j i0 i1 j0 j1,hTi _ k s0 s1 k0 k1,hTi j k j0 j1 k0 k1,hTi i _ i0 i1 t0 t1,hg.assoc i j k i0 i1 j0 j1 k0 k1]
 ·
  obtain⟨i,⟨i0,i1⟩,rfl⟩:=hon a a0 a1
  obtain⟨b,b0,b1,e⟩:=hg.inv i i0 i1
  refine⟨rd p b,(hen b b0 b1).1,by rw[hl];exact(hen b b0 b1).2,?_⟩
  rw[hTi i b i0 i1 b0 b1,e,h0]
end Go.Proofs.YthmcpmnhdbeahaaGreat.V
namespace Go.Proofs.YthmcpmnhdbeahaaGreat.V
open Go.RowKit Go.Proofs.YthmcpmnhdbeahaaGreat.D
end Go.Proofs.YthmcpmnhdbeahaaGreat.V
set_option maxRecDepth 100000
namespace Go.Proofs.YthmcpmnhdbeahaaGreat.P
open Go Go.RowKit Go.Proofs.YthmcpmnhdbeahaaGreat.D
end Go.Proofs.YthmcpmnhdbeahaaGreat.P
namespace Go.Proofs.YthmcpmnhdbeahaaGreat.P
open Go Go.RowKit Go.Proofs.YthmcpmnhdbeahaaGreat.D
end Go.Proofs.YthmcpmnhdbeahaaGreat.P
namespace Go.Proofs.YthmcpmnhdbeahaaGreat.P
open Go Go.RowKit Go.Proofs.YthmcpmnhdbeahaaGreat.D
end Go.Proofs.YthmcpmnhdbeahaaGreat.P
set_option maxHeartbeats 2000000
set_option maxRecDepth 20000
namespace Go.Proofs.YthmcpmnhdbeahaaGreat.V
open Go.RowKit Go.Proofs.YthmcpmnhdbeahaaGreat.D Go.Proofs.YthmcpmnhdbeahaaGreat.P
def join2 (g:List (List Int)) (xs:List Int) (j:Nat):List Int:=(xs.take j++[T g (rd xs j) (rd xs (j+1:Nat))])++xs.drop (j+2)
noncomputable def bsum (g:List (List Int)) (u v xs:List Int):Nat→Int×Int
 | 0=>(rd u (rd xs 0)*At g v (xs.drop 1),-1)
 | j+1=>((bsum g u v xs j).1+(bsum g u v xs j).2*At g v (join2 g xs j),0 - (bsum g u v xs j).2)
noncomputable def Bd (g:List (List Int)) (u v xs:List Int) (d:Nat):Int:=(bsum g u v xs d).1+(bsum g u v xs d).2*At g v (xs.take d)
theorem ZfJ {g:List (List Int)} (hg:Grp g) {xs:List Int} (hx:AllIn g.length xs) {j:Nat} (hj:j+1 < xs.length):AllIn g.length (join2 g xs j)∧(join2 g xs j).length+1=xs.length:=by
 obtain⟨a0,a1⟩:=hx j (by omega) (by omega)
 obtain⟨b0,b1⟩:=hx (j+1:Nat) (by omega) (by omega)
 obtain⟨t0,t1⟩:=hg.ent _ _ a0 a1 b0 b1
 refine⟨AllIn.append (AllIn.append (hx.take j) (Zif t0 t1)) (hx.drop _),?_⟩
 simp only[join2,List.length_append,List.length_take,List.length_drop,List.length_singleton]
 omega
theorem ZkA {g:List (List Int)} (hg:Grp g) {m:Int} {u v xs:List Int} {d:Nat} (hm:Mdl g m u) (hc:Co g m d v) (hx:AllIn g.length xs) (hl:xs.length=d+1) :
  ∀j,j≤d→(-1000000 - 12*(j:Int)≤(bsum g u v xs j).1∧(bsum g u v xs j).1≤1000000+12*(j:Int))∧((bsum g u v xs j).2=1∨(bsum g u v xs j).2 = -1):=by
 have m2:=hm.m2;have m12:=hm.m12
 obtain⟨x0,x1⟩:=hx 0 (by omega) (by omega)
 intro j
 induction j with
 | zero =>
  intro _
  have ha:=At_bd hg (by omega) hc (hx.drop 1) (by rw[List.length_drop,hl];simp)
  obtain⟨c0,c1⟩:=Zfr hm x0 x1 ha.1 ha.2
  rw[show bsum g u v xs 0=(rd u (rd xs 0)*At g v (xs.drop 1),-1)from rfl]
  exact⟨⟨by dsimp only;omega,by dsimp only;omega⟩,.inr rfl⟩
 | succ j ih =>
  intro hj
  obtain⟨⟨h1,h2⟩,h3⟩:=ih (by omega)
  obtain⟨k1,k2⟩:=ZfJ hg hx (j:=j) (by omega)
  have ha:=At_bd hg (by omega) hc k1 (by omega)
  simp only[bsum]
  rcases h3 with h3|h3 <;> rw[h3] <;> refine⟨⟨by omega,by omega⟩,?_⟩
  ·
   exact .inr rfl
  ·
   exact .inl rfl
theorem Zkg {g:List (List Int)} (hg:Grp g) {m:Int} {u v xs ys:List Int} {d:Nat} (hm:Mdl g m u) (hc:Co g m d v) (hx:AllIn g.length xs) (hl:xs.length=d+1) {j:Nat} (hj:j≤d) (hy:AllIn g.length ys) (hyl:ys.length=d) :
  wrapI ((bsum g u v xs j).1+wrapI ((bsum g u v xs j).2*At g v ys))=(bsum g u v xs j).1+(bsum g u v xs j).2*At g v ys∧wrapI (0 - (bsum g u v xs j).2)=0 - (bsum g u v xs j).2 ∧ -2000000≤(bsum g u v xs j).1+(bsum g u v xs j).2*At g v ys∧(bsum g u v xs j).1+(bsum g u v xs j).2*At g v ys≤2000000:=by
 have m2:=hm.m2;have m12:=hm.m12;have d3:=hc.1.2
 obtain⟨⟨s1,s2⟩,s3⟩:=ZkA hg hm hc hx hl j hj
 have hb:=At_bd hg (by omega) hc hy (by omega)
 have p1 : -100≤(bsum g u v xs j).2*At g v ys∧(bsum g u v xs j).2*At g v ys≤100:=by rcases s3 with s3|s3 <;> rw[s3] <;> omega
 rw[w64 (x:=(bsum g u v xs j).2*At g v ys) (by omega) (by omega)]
 exact⟨w64 (by omega) (by omega),w64 (by omega) (by omega),by omega,by omega⟩
theorem Zk6 {g:List (List Int)} (hg:Grp g) {m:Int} {u v xs:List Int} {d:Nat} (hm:Mdl g m u) (hc:Co g m d v) (hx:AllIn g.length xs) (hl:xs.length=d+1) :
  wrapI (rd u (rd xs 0)*At g v (xs.drop 1))=rd u (rd xs 0)*At g v (xs.drop 1):=by
 have m2:=hm.m2;have m12:=hm.m12
 obtain⟨x0,x1⟩:=hx 0 (by omega) (by omega)
 have ha:=At_bd hg (by omega) hc (hx.drop 1) (by rw[List.length_drop,hl];simp)
 obtain⟨c0,c1⟩:=Zfr hm x0 x1 ha.1 ha.2
 exact w64 (by omega) (by omega)
theorem Own_ (xs:List Int) (hl:xs.length≤1048576):ZaF.f xs=some xs:=by
 rw[ZaF.f_eq,List.nil_append,show([]:List Int).length=0 from rfl]
 ((with_reducible repeat (first|refine ZP (by first|assumption|omega|rfl|exact B_pos (by omega)) ?_|refine ZO (by first|assumption|omega|decide|exact B_not (by omega)) ?_|refine Zq (by first|assumption) ?_|dsimp only));first|done|(with_reducible rfl)|simp (disch:=omega) only[w64]|(show False;done))
theorem w2n {j:Nat} (h:j < 4611686018427387904):wrapI ((j:Int)+2)=((j+2:Nat):Int):=by rw[w64 (by omega) (by omega)];omega
theorem ZhN {g:List (List Int)} (hg:Grp g) {m:Int} {u v xs:List Int} {d:Nat} (hm:Mdl g m u) (hc:Co g m d v) (hx:AllIn g.length xs) (hl:xs.length=d+1) :
  Z4.f g m u d v xs=some (Bd g u v xs d):=by
 have hlu:=hm.len;have n8:=hg.n8;have d3:=hc.1.2
 obtain⟨x0,x1⟩:=hx 0 (by omega) (by omega)
 have h0:=at_ hg hc (hx.drop 1) (by rw[List.length_drop,hl];simp)
 have hat:=at_ hg hc (hx.take d) (by rw[List.length_take,hl];omega)
 have loop:=up d (fun i=>Z4.l0 xs (d:Int) (bsum g u v xs i).1 (bsum g u v xs i).2 (d:Int) (i:Int) g d v) (fun j hj=>by
  obtain⟨a0,a1⟩:=hx j (by omega) (by omega)
  obtain⟨b0,b1⟩:=hx (j+1:Nat) (by omega) (by omega)
  obtain⟨k1,k2⟩:=ZfJ hg hx (j:=j) (by omega)
  have hv:Zax.f d v g (xs.take j++[T g (rd xs j) (rd xs (j+1:Nat))]++xs.drop (j+2))=some (At g v (join2 g xs j)):=show Zax.f d v g (join2 g xs j)=_ from at_ hg hc k1 (by omega)
  have ht:=times2 hg a0 a1 b0 b1
  obtain⟨w3,w4,_,_⟩:=Zkg hg hm hc hx hl (j:=j) (by omega) k1 (by omega)
  have z1:(xs.take j).length=j:=by rw[List.length_take];omega
  have z0:([]:List Int).length=0:=rfl
  have z2:∀y:Int,([y]:List Int).length=1:=fun _=>rfl
  have z3:(xs.drop (j+2)).length=xs.length - (j+2):=List.length_drop
  rw[Z4.l0_eq,wn (j:=j) (by omega),w2n (j:=j) (by omega),Int.toNat_natCast,Int.toNat_natCast,z0,List.nil_append,z1,ht,Option.bind_some,z2]
  rw[List.length_append,z1,z2,z3,hv,Option.bind_some,w3,w4]
  (with_reducible repeat (first|refine ZP (by first|assumption|omega|rfl|exact B_pos (by omega)) ?_|refine ZO (by first|assumption|omega|decide|exact B_not (by omega)) ?_|refine Zq (by first|assumption) ?_|dsimp only))
  rfl)
 have wl:wrapI ((xs.length:Int) - 1)=(d:Int):=by rw[w64 (by omega) (by omega)];omega
 obtain⟨w3,_,_,_⟩:=Zkg hg hm hc hx hl (j:=d) (by omega) (hx.take d) (by rw[List.length_take];omega)
 have e1:xs.drop (1:Int).toNat=xs.drop 1:=rfl
 rw[Z4.f_eq,e1,h0,Option.bind_some,wl,Zk6 hg hm hc hx hl]
 (with_reducible repeat (first|refine ZP (by first|assumption|omega|rfl|exact B_pos (by omega)) ?_|refine ZO (by first|assumption|omega|decide|exact B_not (by omega)) ?_|refine Zq (by first|assumption) ?_|dsimp only))
 refine loop.trans ?_
 rw[Z4.l0_eq,Int.toNat_natCast,hat,Option.bind_some,w3]
 (with_reducible repeat (first|refine ZP (by first|assumption|omega|rfl|exact B_pos (by omega)) ?_|refine ZO (by first|assumption|omega|decide|exact B_not (by omega)) ?_|refine Zq (by first|assumption) ?_|dsimp only))
 rfl
noncomputable def bdV (g:List (List Int)) (u v:List Int) (d i:Nat):Int:=Bd g u v (lst ((g.length:Int) - 1) (d+1) (i:Int)) d
noncomputable def bdL (g:List (List Int)) (m:Int) (u v:List Int) (d:Nat):List Int:=(List.range (cells g ((d+1:Nat):Int)).toNat).map fun i=>bdV g u v d i%m
theorem Zgd {g:List (List Int)} (hg:Grp g) {m:Int} {u v:List Int} {d:Nat} (hm:Mdl g m u) (hc:Co g m d v):ZaO.f g m u d v=some (((d+1:Nat):Int),bdL g m u v d):=by
 have d3:=hc.1.2
 have hT:=told hg hm.m2 hm.m12 (n:=d+1) (by omega) (F:=fun z0=>(ZaD.f z0 g m u d v).map fun z=>z) (G:=bdV g u v d) (fun i hi=>by
  obtain⟨hx,_⟩:=ZiO hg (n:=d+1) (i:=i) hi
  have hll:=Zd4 ((g.length:Int) - 1) (d+1) i
  have e:ZaD.f (lst ((g.length:Int) - 1) (d+1) i) g m u d v=some (bdV g u v d i):=by
   rw[ZaD.f_eq,ZhN hg hm hc hx hll];rfl
  show Option.map _ (ZaD.f _ g m u d v)=_
  rw[e];rfl)
 rw[ZaO.f_eq,wn (j:=d) (by omega),hT]
 rfl
end Go.Proofs.YthmcpmnhdbeahaaGreat.V
set_option maxHeartbeats 4000000
namespace Go.Proofs.YthmcpmnhdbeahaaGreat.V
open Go.RowKit Go.Proofs.YthmcpmnhdbeahaaGreat.D Go.Proofs.YthmcpmnhdbeahaaGreat.P
def InN (N:Nat) (a:Int):Prop:=0≤a∧a < N
structure Gp (N:Nat) (M:Int→Int→Int):Prop where
 pos:0 < N
 ent:∀a b:Int,InN N a→InN N b→InN N (M a b)
 assoc:∀a b c:Int,InN N a→InN N b→InN N c→M (M a b) c=M a (M b c)
 one:∀a:Int,InN N a→M 0 a=a
 one' : ∀a:Int,InN N a→M a 0=a
 inv:∀a:Int,InN N a→∃b:Int,InN N b∧M a b=0
theorem Gp.zero {N:Nat} {M:Int→Int→Int} (h:Gp N M):InN N 0:=⟨by omega,by have:=h.pos;omega⟩
theorem Gp.inv2 {N:Nat} {M:Int→Int→Int} (h:Gp N M) {a:Int} (ha:InN N a):∃b:Int,InN N b∧M a b=0∧M b a=0:=by
 obtain⟨b,hb,e⟩:=h.inv a ha
 obtain⟨c,hc,e2⟩:=h.inv b hb
 have h1:=h.assoc a b c ha hb hc
 rw[e,e2,h.one c hc,h.one' a ha]at h1
 exact⟨b,hb,e,by rw[←h1];exact e2⟩
theorem Gp.cancel {N:Nat} {M:Int→Int→Int} (h:Gp N M) {a b c:Int} (ha:InN N a) (hb:InN N b) (hc:InN N c) (e:M a c=M b c):a=b:=by
 obtain⟨d,hd,e1,_⟩:=h.inv2 hc
 have h1:=h.assoc a c d ha hc hd
 have h2:=h.assoc b c d hb hc hd
 rw[e1,h.one' a ha]at h1
 rw[e1,h.one' b hb]at h2
 rw[←h1,←h2,e]
def numL (N:Nat):List Int:=(List.range N).map fun i:Nat=>(i:Int)
theorem ZfO (N:Nat):(numL N).length=N:=by simp[numL]
theorem Zdk (N:Nat):(numL N).Nodup:=by
 unfold numL
 rw[List.Nodup,List.pairwise_map]
 exact(List.nodup_range (n:=N)).imp fun h e=>h (by omega)
theorem Zca {N:Nat} {x:Int}:x∈numL N↔InN N x:=by
 unfold numL
 rw[List.mem_map]
 constructor
 ·
  rintro⟨i,hi,rfl⟩
  have:=List.mem_range.1 hi
  exact⟨by omega,by omega⟩
 ·
  rintro⟨h0,h1⟩
  exact⟨x.toNat,List.mem_range.2 (by omega),by omega⟩
theorem Gp.sub_dvd {N:Nat} {M:Int→Int→Int} (h:Gp N M) {Z:List Int} (hn:Z.Nodup) (hz:∀z∈Z,InN N z) (h0:(0:Int)∈Z) (hcl:∀a∈Z,∀b∈Z,M a b∈Z) (hinv:∀a∈Z,∃b∈Z,M b a=0):Z.length∣N:=by
 obtain⟨Q,hQ⟩:∃Q:Int→Prop,∀x,Q x↔∀z∈Z,x≤M z x:=⟨_,fun _=>Iff.rfl⟩
 obtain⟨K,hK⟩:∃K,K=(numL N).filter fun x=>B (Q x):=⟨_,rfl⟩
 have hKm:∀r,r∈K↔InN N r∧Q r:=fun r=>by
  rw[hK,List.mem_filter,Zca]
  exact and_congr Iff.rfl B_iff
 have hKn:K.Nodup:=by rw[hK];exact(Zdk N).filter _
 have hF:(K.flatMap fun r=>Z.map fun z=>M z r).length=K.length*Z.length:=by
  have:∀l:List Int,(l.flatMap fun r=>Z.map fun z=>M z r).length=l.length*Z.length:=by
   intro l
   induction l with
   | nil=>simp
   | cons x l ih=>rw[List.flatMap_cons,List.length_append,ih,List.length_map,List.length_cons,Nat.succ_mul];omega
  exact this K
 have same:∀r s z w,r∈K→s∈K→z∈Z→w∈Z→M z r=M w s→r=s:=fun r s z w hr hs hz' hw e=>by
  obtain⟨r1,r2⟩:=(hKm r).1 hr
  obtain⟨s1,s2⟩:=(hKm s).1 hs
  obtain⟨w', hw', e1⟩:=hinv w hw
  obtain⟨z', hz'', e2⟩:=hinv z hz'
  have a1:s=M (M w' z) r:=by
   rw[h.assoc _ _ _ (hz _ hw') (hz _ hz') r1,e,←h.assoc _ _ _ (hz _ hw') (hz _ hw) s1,e1,h.one s s1]
  have a2:r=M (M z' w) s:=by
   rw[h.assoc _ _ _ (hz _ hz'') (hz _ hw) s1,←e,←h.assoc _ _ _ (hz _ hz'') (hz _ hz') r1,e2,h.one r r1]
  have b1:=(hQ r).1 r2 _ (hcl _ hw' _ hz')
  have b2:=(hQ s).1 s2 _ (hcl _ hz'' _ hw)
  rw[←a1]at b1
  rw[←a2]at b2
  omega
 have hFn:(K.flatMap fun r=>Z.map fun z=>M z r).Nodup:=by
  rw[List.Nodup,List.pairwise_flatMap]
  constructor
  ·
   intro r hr
   rw[List.pairwise_map]
   exact List.Pairwise.imp_of_mem (fun {p q} hp hq hne e=>hne (h.cancel (hz _ hp) (hz _ hq) ((hKm r).1 hr).1 e)) hn
  ·
   refine List.Pairwise.imp_of_mem (fun {r s} hr hs hne x hx y hy e=>hne ?_) hKn
   obtain⟨p,hp,rfl⟩:=List.mem_map.1 hx
   obtain⟨q,hq,rfl⟩:=List.mem_map.1 hy
   exact same r s p q hr hs hp hq e
 have least:∀x:Int,∀L:List Int,L≠[]→∃a∈L,∀b∈L,M a x≤M b x:=by
  intro x L
  induction L with
  | nil=>intro q;exact absurd rfl q
  | cons y L ih =>
   intro _
   by_cases hL:L=[]
   ·
    subst hL
    exact⟨y,by simp,fun b hb=>by rw[List.mem_singleton]at hb;rw[hb];exact Int.le_refl _⟩
   ·
    obtain⟨a,ha,hmin⟩:=ih hL
    by_cases q:M y x≤M a x
    ·
     refine⟨y,by simp,fun b hb => ?_⟩
     rcases List.mem_cons.1 hb with rfl|hb
     ·
      exact Int.le_refl _
     ·
      have:=hmin b hb;omega
    ·
     refine⟨a,List.mem_cons_of_mem _ ha,fun b hb => ?_⟩
     rcases List.mem_cons.1 hb with rfl|hb
     ·
      omega
     ·
      exact hmin b hb
 have hmem:∀x,x∈numL N↔x∈K.flatMap fun r=>Z.map fun z=>M z r:=fun x=>by
  rw[List.mem_flatMap]
  constructor
  ·
   intro hx
   have hx:=Zca.1 hx
   obtain⟨a,ha,hmin⟩:=least x Z (fun e=>by rw[e]at h0;cases h0)
   obtain⟨w,hw,e⟩:=hinv a ha
   refine⟨M a x,(hKm _).2 ⟨h.ent _ _ (hz _ ha) hx,(hQ _).2 fun z hz' => ?_⟩,List.mem_map.2 ⟨w,hw,?_⟩⟩
   ·
    rw[←h.assoc _ _ _ (hz _ hz') (hz _ ha) hx]
    exact hmin _ (hcl _ hz' _ ha)
   ·
    rw[←h.assoc _ _ _ (hz _ hw) (hz _ ha) hx,e,h.one x hx]
  ·
   rintro⟨r,hr,hx⟩
   obtain⟨z,hz', rfl⟩:=List.mem_map.1 hx
   exact Zca.2 (h.ent _ _ (hz _ hz') ((hKm r).1 hr).1)
 have l1:=nd_le (Zdk N) fun x hx=>(hmem x).1 hx
 have l2:=nd_le hFn fun x hx=>(hmem x).2 hx
 rw[ZfO]at l1 l2
 exact⟨K.length,by rw[Nat.mul_comm,←hF];omega⟩
end Go.Proofs.YthmcpmnhdbeahaaGreat.V
namespace Go.Proofs.YthmcpmnhdbeahaaGreat.V
open Go Go.RowKit Go.Proofs.YthmcpmnhdbeahaaGreat.D Go.Proofs.YthmcpmnhdbeahaaGreat.P
theorem Ziu {g:List (List Int)} {m:Int} {u:List Int} (hu:u.length≤maxLen):ZG.f g [(m,u)]=some (ite_ (GM g m u) 0 1):=by
 have r0:(Ty.rd (.pr (.int .i64) (.sl 2 (.int .i64))) [(m,u)] 0)=(m,u):=rfl
 have l1:([(m,u)]:List (Int×List Int)).length=1:=rfl
 rw[ZG.f_eq,Is_ g]
 by_cases hg:Grp g
 rotate_left
 ·
  rw[B_neg hg,ZbB fun k=>hg k.1];rfl
 have h2:=Is02 hg m u hu
 rw[B_pos hg,Option.bind_some,if_pos rfl,ZG.l0_eq,l1,if_pos (by omega),if_pos (by omega),if_pos (by omega),r0]
 dsimp only
 rw[h2,Option.bind_some]
 by_cases hm:Mdl g m u
 ·
  rw[B_pos hm,if_pos rfl,ZG.l0_eq,l1,w64 (by omega) (by omega),if_neg (by omega),ZbG ⟨hg,hm⟩]
 ·
  rw[B_neg hm,if_neg (by decide),ZbB fun k=>hm k.2]
theorem Ziv {g:List (List Int)} {m m' : Int} {u u' : List Int} (hu:u.length≤maxLen) (hu' : u'.length≤maxLen):ZG.f g [(m,u),(m', u')]=some (ite_ (GM g m u∧GM g m' u') 0 1):=by
 have r0:(Ty.rd (.pr (.int .i64) (.sl 2 (.int .i64))) [(m,u),(m', u')] 0)=(m,u):=rfl
 have r1:(Ty.rd (.pr (.int .i64) (.sl 2 (.int .i64))) [(m,u),(m', u')] 1)=(m', u'):=rfl
 have l1:([(m,u),(m', u')]:List (Int×List Int)).length=2:=rfl
 have w1:wrapI (0+1)=1:=w64 (by omega) (by omega)
 have w2:wrapI (1+1)=2:=w64 (by omega) (by omega)
 rw[ZG.f_eq,Is_ g]
 by_cases hg:Grp g
 rotate_left
 ·
  rw[B_neg hg,ZbB fun k=>hg k.1.1];rfl
 have h2:=Is02 hg m u hu
 have h3:=Is02 hg m' u' hu'
 rw[B_pos hg,Option.bind_some,if_pos rfl,ZG.l0_eq,l1,if_pos (by omega),if_pos (by omega),if_pos (by omega),r0]
 dsimp only
 rw[h2,Option.bind_some]
 by_cases hm:Mdl g m u
 rotate_left
 ·
  rw[B_neg hm,if_neg (by decide),ZbB fun k=>hm k.1.2]
 rw[B_pos hm,if_pos rfl,w1,ZG.l0_eq,l1,if_pos (by omega),if_pos (by omega),if_pos (by omega),r1]
 dsimp only
 rw[h3,Option.bind_some]
 by_cases hm' : Mdl g m' u'
 ·
  rw[B_pos hm', if_pos rfl,w2,ZG.l0_eq,l1,if_neg (by omega),ZbG ⟨⟨hg,hm⟩,hg,hm'⟩]
 ·
  rw[B_neg hm', if_neg (by decide),ZbB fun k=>hm' k.2.2]
theorem Zit {g:List (List Int)} (hl:g.length≤maxLen) (hr:∀r∈g,r.length≤maxLen) {m m' : Int} {u u' : List Int} (hu:u.length≤maxLen) (hu' : u'.length≤maxLen):ZC.f g [(m,u),(m', u')]=some (ite_ (GM g m u∧GM g m' u') 0 1):=by
 have r0:(Ty.rd (.pr (.int .i64) (.sl 2 (.int .i64))) [(m,u),(m', u')] 0)=(m,u):=rfl
 have r1:(Ty.rd (.pr (.int .i64) (.sl 2 (.int .i64))) [(m,u),(m', u')] 1)=(m', u'):=rfl
 have l1:([(m,u),(m', u')]:List (Int×List Int)).length=2:=rfl
 have w1:wrapI (0+1)=1:=w64 (by omega) (by omega)
 have w2:wrapI (1+1)=2:=w64 (by omega) (by omega)
 have hG:=ZgW g hl hr
 rw[ZC.f_eq,ZI.f_eq,ZI.l0_eq,l1,if_pos (by omega),if_pos (by omega),if_pos (by omega),hG,r0]
 by_cases hg:Grp g
 rotate_left
 ·
  rw[B_neg hg,ZbB fun k=>hg k.1.1];rfl
 have h2:=ZfI hg m u hu
 have h3:=ZfI hg m' u' hu'
 rw[B_pos hg,Option.bind_some,if_pos rfl]
 dsimp only
 rw[h2,Option.bind_some]
 by_cases hm:Mdl g m u
 rotate_left
 ·
  rw[B_neg hm,if_neg (by decide),ZbB fun k=>hm k.1.2];rfl
 rw[B_pos hm,if_pos rfl,w1,ZI.l0_eq,if_pos (by omega),if_pos (by omega),if_pos (by rw[l1];omega),hG,B_pos hg,Option.bind_some,if_pos rfl,r1]
 dsimp only
 rw[h3,Option.bind_some]
 by_cases hm' : Mdl g m' u'
 ·
  rw[B_pos hm', if_pos rfl,w2,ZI.l0_eq,if_neg (by omega),ZbG ⟨⟨hg,hm⟩,hg,hm'⟩];rfl
 ·
  rw[B_neg hm', if_neg (by decide),ZbB fun k=>hm' k.2.2];rfl
def stp (d:Int) (us:List Int):Int:=us.foldl (fun d u=>((Int.gcd d (u - 1):Nat):Int)) d
theorem ZgJ:∀(us:List Int) (d:Int),0 < d→0 < stp d us∧stp d us∣d∧(∀u∈us,stp d us∣u - 1)∧∀M x:Int,0≤x→M∣d*x→(∀u∈us,M∣(u - 1)*x)→M∣stp d us*x:=by
 intro us
 induction us with
 | nil=>intro d hd;exact⟨hd,Int.dvd_refl _,by simp,fun M x _ h _=>h⟩
 | cons u us ih =>
  intro d hd
  have hp:0 < ((Int.gcd d (u - 1):Nat):Int):=by have:=Int.gcd_pos_of_ne_zero_left (u - 1) (show d≠0 by omega);omega
  obtain⟨a1,a2,a3,a4⟩:=ih _ hp
  refine⟨a1,Int.dvd_trans a2 (Int.gcd_dvd_left ..),fun w hw => ?_,fun M x x0 h1 h2 => ?_⟩
  ·
   rcases List.mem_cons.1 hw with rfl|hw
   ·
    exact Int.dvd_trans a2 (Int.gcd_dvd_right ..)
   ·
    exact a3 w hw
  ·
   refine a4 M x x0 ?_ fun w hw=>h2 w (List.mem_cons_of_mem _ hw)
   have h3:=Int.dvd_coe_gcd h1 (h2 u List.mem_cons_self)
   rw[Int.gcd_mul_right,Int.natCast_mul,Int.natAbs_of_nonneg x0]at h3
   exact h3
theorem ZhJ {us:List Int} {d:Int} {k:Nat} (hk:k < us.length):stp d (us.take (k+1))=((Int.gcd (stp d (us.take k)) (rd us (k:Int) - 1):Nat):Int):=by
 unfold stp
 rw[Zdf hk,List.foldl_append]
 rfl
theorem Step_ {g:List (List Int)} (hg:Grp g) {m:Int} {u:List Int} (hm:Mdl g m u):Zav.f m u=some (stp m u)∧Zg.l0 u (u.length:Int) 0 m u m=Zg.l0 u (u.length:Int) (u.length:Int) m u (stp m u):=by
 have m2:=hm.m2;have m12:=hm.m12;have n8:=hg.n8;have hl:=hm.len
 have sb:∀k,0 < stp m (u.take k)∧stp m (u.take k)≤12:=fun k=>by
  obtain⟨a1,a2,_⟩:=ZgJ (u.take k) m (by omega)
  have:=Int.le_of_dvd (by omega) a2
  exact⟨a1,by omega⟩
 have ub:∀k:Nat,k < u.length→1≤rd u (k:Int)∧rd u (k:Int) < m:=fun k hk=>hm.at (by omega) (by omega)
 have hT:u.take u.length=u:=List.take_length
 constructor
 ·
  have main:=up u.length (fun k=>Zav.l0 (stp m (u.take k)) (k:Int) m u) (fun k hk=>by
   obtain⟨a0,a1⟩:=ub k hk
   obtain⟨b0,b1⟩:=sb k
   rw[ZhJ hk,Zav.l0_eq,if_pos (by omega),if_pos (by omega),if_pos (by omega),w64 (x:=rd u (k:Int) - 1) (by omega) (by omega),Gcd_ (by omega) (by omega) (by omega) (by omega),Option.bind_some,wn (j:=k) (by omega)])
  simp only[Int.natCast_zero,List.take_zero,hT]at main
  rw[Zav.f_eq]
  refine Eq.trans main ?_
  rw[Zav.l0_eq,if_neg (by omega)]
 ·
  have main:=up u.length (fun k=>Zg.l0 u (u.length:Int) (k:Int) m u (stp m (u.take k))) (fun k hk=>by
   obtain⟨a0,a1⟩:=ub k hk
   obtain⟨b0,b1⟩:=sb k
   rw[ZhJ hk,Zg.l0_eq,if_pos (by omega),if_pos (by omega),if_pos (by omega),w64 (x:=rd u (k:Int) - 1) (by omega) (by omega),gcd_ (by omega) (by omega),Option.bind_some,wn (j:=k) (by omega)])
  simp only[Int.natCast_zero,List.take_zero,hT]at main
  exact main
def mulL (D m:Nat):List Int:=(List.range (m / D)).map fun k:Nat=>((k*D:Nat):Int)
theorem ZiR:∀m:Nat,m≤12→∀D:Nat,D≤12→1≤D→m%D=0→kept m (fun x=>decide ((x:Int)%(D:Int)=0))=mulL D m∧(mulL D m).length=m / D:=by decide +kernel
theorem Ze9 {D m:Nat} (D1:1≤D) (D12:D≤12) (m12:m≤12) (hd:m%D=0):ZE.f (D:Int) (m:Int)=some (mulL D m):=by
 have l1:∀x:Int,([x]:List Int).length=1:=fun _=>rfl
 obtain⟨t,ht⟩:=Nat.dvd_of_mod_eq_zero hd
 have htd:m / D=t:=by rw[ht,Nat.mul_div_cancel_left _ (by omega)]
 have main:=up t (fun k=>ZE.l0 (D:Int) (m:Int) ((k*D:Nat):Int) ((List.range k).map fun k:Nat=>((k*D:Nat):Int))) (fun k hk=>by
  have e:((List.range k).map fun k:Nat=>((k*D:Nat):Int)).length=k:=by simp
  have h1:(k+1)*D≤m:=by rw[ht,Nat.mul_comm];exact Nat.mul_le_mul_left D (by omega)
  have h2:(k+1)*D=k*D+D:=Nat.succ_mul k D
  have h3:t≤m:=by rw[ht];exact Nat.le_mul_of_pos_left t (by omega)
  rw[ZE.l0_eq,if_pos (by omega),e,l1,if_pos (by omega),w64 (by omega) (by omega),show((k*D:Nat):Int)+(D:Int)=(((k+1)*D:Nat):Int)by omega,List.range_succ,List.map_append,List.map_singleton])
 simp only[List.range_zero,List.map_nil,Nat.zero_mul,Int.natCast_zero]at main
 rw[ZE.f_eq,main,ZE.l0_eq,if_neg (by rw[Nat.mul_comm t D,←ht];omega)]
 unfold mulL
 rw[htd]
theorem Zdx {m:Nat} (hm:m≤1048576) {F:Int→Option Bool} {p:Nat→Bool} (hF:∀i:Nat,i < m→F (i:Int)=some (!p i)):Zd.f ((List.range m).map fun i:Nat=>(i:Int)) F=some (kept m p):=by
 have hd:=Zfe (F:=F) (p:=fun x => !p x.toNat) ((List.range m).map fun i:Nat=>(i:Int)) (by rw[List.length_map,List.length_range];exact hm) (fun x hx=>by
  obtain⟨i,hi,rfl⟩:=List.mem_map.1 hx
  rw[hF i (List.mem_range.1 hi),Int.toNat_natCast])
 rw[hd]
 unfold kept
 rw[List.filter_map]
 congr 2
 apply List.filter_congr
 intro i _
 simp
theorem Zgf {F:Int→Option Bool} {p:Int→Bool} (xs:List Int) (hl:xs.length≤1048576) (hF:∀x∈xs,F x=some (p x)):Zr.f xs F=some (xs.any p):=by
 rw[Zr.f_eq]
 rcases indexFuncI (F:=fun z0=>(F z0).map fun z=>z) (p:=p) xs hl (fun x hx=>by show Option.map _ (F x)=_;rw[hF x hx];rfl)with ⟨h,e⟩|⟨i,hi,hp,_,e⟩
 ·
  rw[e,Option.bind_some,decide_eq_false (by omega)]
  congr 1
  exact(List.any_eq_false.2 fun x hx=>by rw[h x hx];decide).symm
 ·
  rw[e,Option.bind_some,decide_eq_true (by omega)]
  congr 1
  exact(List.any_eq_true.2 ⟨_,Zce (by omega) (by omega),hp⟩).symm
theorem ZjI {g:List (List Int)} (hg:Grp g) {m:Int} {u:List Int} (hm:Mdl g m u):∃(M D:Nat),(M:Int)=m∧1≤D∧M%D=0∧M≤12∧(∀x:Nat,x < M→((∀w∈u,m∣(w - 1)*(x:Int))↔(x:Int)%((M / D:Nat):Int)=0)) ∧
  Zal.f g m u=some (mulL (M / D) M,0)∧Zam.f g m u=some (mulL (M / D) M,0)∧Zg.f g m u=some (mulL D M,0)∧ZJ.f g m u=some (mulL D M,0) ∧
  (mulL (M / D) M).length=D∧(mulL D M).length=M / D∧mulL (M / D) M=kept M (fun x=>decide ((x:Int)%((M / D:Nat):Int)=0)):=by
 have m2:=hm.m2;have m12:=hm.m12;have n8:=hg.n8;have hl:=hm.len
 obtain⟨M,hM⟩:=Int.eq_ofNat_of_zero_le (show 0≤m by omega)
 obtain⟨a1,a2,a3,a4⟩:=ZgJ u m (by omega)
 obtain⟨D,hD⟩:=Int.eq_ofNat_of_zero_le (show 0≤stp m u by omega)
 rw[hD]at a1 a2 a3 a4
 have hle:=Int.le_of_dvd (by omega) a2
 have hmod:M%D=0:=by
  rw[hM]at a2
  exact Nat.mod_eq_zero_of_dvd (Int.natCast_dvd_natCast.1 a2)
 obtain⟨t,ht⟩:=Nat.dvd_of_mod_eq_zero hmod
 have htd:M / D=t:=by rw[ht,Nat.mul_div_cancel_left _ (by omega)]
 have t1:1≤t:=by
  rcases Nat.eq_zero_or_pos t with q|q
  ·
   rw[q,Nat.mul_zero]at ht;omega
  ·
   exact q
 have tM:t≤M:=by rw[ht];exact Nat.le_mul_of_pos_left t (by omega)
 have hmt:M%t=0:=by rw[ht];exact Nat.mul_mod_left D t
 have hMt:M / t=D:=by rw[ht,Nat.mul_div_cancel _ (by omega)]
 obtain⟨f1,f2⟩:=ZiR M (by omega) t (by omega) t1 hmt
 obtain⟨g1,g2⟩:=ZiR M (by omega) D (by omega) (by omega) hmod
 have key:∀x:Nat,x < M→((∀w∈u,m∣(w - 1)*(x:Int))↔(x:Int)%(t:Int)=0):=fun x hx=>by
  constructor
  ·
   intro h
   obtain⟨k,hk⟩:=a4 m (x:Int) (by omega) ⟨(x:Int),rfl⟩ h
   rw[hM,ht,Int.natCast_mul,Int.mul_assoc]at hk
   have:=Int.eq_of_mul_eq_mul_left (show(D:Int)≠0 by omega) hk
   rw[this,Int.mul_emod_right]
  ·
   intro h w hw
   obtain⟨k,hk⟩:=Int.dvd_of_emod_eq_zero h
   obtain⟨j,hj⟩:=a3 w hw
   rw[hj,hk,hM,ht,Int.natCast_mul]
   exact⟨j*k,by rw[Int.mul_assoc,Int.mul_assoc,Int.mul_left_comm j]⟩
 have hcode:=ZdA g (Zbo (by omega)) (fun r hr=>by
  obtain⟨i,i0,i1,rfl⟩:=Zg0 hr
  have:=hg.row i i0 i1
  exact Zbo (by omega)) m u (Zbo (by omega))
 have hcodeS:=Ziu (g:=g) (m:=m) (u:=u) (Zbo (by omega))
 rw[ZbG ⟨hg,hm⟩]at hcode hcodeS
 obtain⟨s1,s2⟩:=Step_ hg hm
 rw[hD]at s1 s2
 have hcount:=counting (n:=M) (by omega)
 rw[←hM]at hcount
 refine⟨M,D,hM.symm,by omega,hmod,by omega,?_,?_,?_,?_,?_,by rw[htd,f2,hMt],g2,by rw[htd];exact f1.symm⟩
 ·
  rw[htd];exact key
 ·
  have hdel:=Zdx (m:=M) (by omega) (F:=fun z0=>(Zaa.f z0 m u).map fun z=>z) (p:=fun x=>decide ((x:Int)%(t:Int)=0)) (fun x hx=>by
   show Option.map _ (Zaa.f (x:Int) m u)=_
   have hc:=Zgf (F:=fun z0=>(ZS.f z0 (x:Int) m u).map fun z=>z) (p:=fun w => !decide (w*(x:Int)%m=(x:Int))) u (by omega) (fun w hw=>by
    show Option.map _ (ZS.f w (x:Int) m u)=_
    obtain⟨j,j0,j1,e⟩:=(show ∃j:Int,0≤j∧j < u.length∧rd u j=w from by
     obtain⟨j,hj,e⟩:=List.mem_iff_getElem.1 hw
     exact⟨(j:Int),by omega,by omega,by rw[rd_get hj];exact e⟩)
    obtain⟨b0,b1⟩:=hm.at j0 (by omega)
    rw[e]at b0 b1
    obtain⟨p0,p1⟩:=ZbE (a:=w) (b:=(x:Int)) (m:=1000) (by omega) (by omega) (by omega) (by omega) (by omega)
    rw[ZS.f_eq,if_neg (by omega),w64 (x:=w*(x:Int)) (by omega) (by omega),Zbz p0]
    rfl)
   rw[Zaa.f_eq,hc,Option.bind_some]
   show some (decide _)=_
   congr 1
   have hiff:∀w:Int,w*(x:Int)%m=(x:Int)↔m∣(w - 1)*(x:Int):=fun w=>by
    constructor
    ·
     intro h
     have:=Int.mul_ediv_add_emod (w*(x:Int)) m
     rw[h]at this
     exact⟨w*(x:Int) / m,by rw[Int.sub_mul,Int.one_mul];omega⟩
    ·
     rintro⟨k,hk⟩
     rw[Int.sub_mul,Int.one_mul]at hk
     rw[show w*(x:Int)=(x:Int)+m*k by omega,Int.add_mul_emod_self_left,Int.emod_eq_of_lt (by omega) (by omega)]
   by_cases q:(x:Int)%(t:Int)=0
   ·
    rw[decide_eq_true q,List.any_eq_false.2 fun w hw=>by rw[decide_eq_true ((hiff w).2 ((key x hx).2 q w hw))];decide]
    rfl
   ·
    rw[decide_eq_false q,List.any_eq_true.2 (by
     apply Classical.byContradiction
     intro hno
     refine q ((key x hx).1 fun w hw=>(hiff w).1 (Classical.byContradiction fun k=>hno ⟨w,hw,?_⟩))
     rw[decide_eq_false k];rfl)]
    rfl)
  rw[Zal.f_eq,hcode,Option.bind_some,if_pos rfl,hcount,Option.bind_some,hdel,htd,f1]
  rfl
 ·
  rw[Zam.f_eq,hcodeS,Option.bind_some,if_pos rfl,s1,Option.bind_some,if_neg (by omega),Zeb (by omega),show m / (D:Int)=(t:Int)by rw[hM,←Int.natCast_ediv,htd],w64 (by omega) (by omega),hM,Ze9 t1 (by omega) (by omega) hmt,htd]
  rfl
 ·
  have hdel:=Zdx (m:=M) (by omega) (F:=fun z0=>(ZD.f z0 (D:Int)).map fun z=>z) (p:=fun x=>decide ((x:Int)%(D:Int)=0)) (fun x hx=>by
   show Option.map _ (ZD.f (x:Int) (D:Int))=_
   rw[ZD.f_eq,if_neg (by omega),Zbz (by omega)]
   rfl)
  rw[Zg.f_eq,hcode,Option.bind_some,if_pos rfl,s2,Zg.l0_eq,if_neg (by omega),hcount,Option.bind_some,hdel,g1]
  rfl
 ·
  rw[ZJ.f_eq,hcodeS,Option.bind_some,if_pos rfl,s1,Option.bind_some,hM,Ze9 (by omega) (by omega) (by omega) hmod]
  rfl
end Go.Proofs.YthmcpmnhdbeahaaGreat.V
set_option maxHeartbeats 2000000
namespace Go.Proofs.YthmcpmnhdbeahaaGreat.V
open Go.RowKit Go.Proofs.YthmcpmnhdbeahaaGreat.D Go.Proofs.YthmcpmnhdbeahaaGreat.P
theorem Zlc {n:Nat} (hn:n≤8):bits_Mul64.f 1 (n:Int)=some (0,(n:Int)):=by
 rw[bits_Mul64.f_eq]
 have h:n=0∨n=1∨n=2∨n=3∨n=4∨n=5∨n=6∨n=7∨n=8:=by omega
 rcases h with rfl|rfl|rfl|rfl|rfl|rfl|rfl|rfl|rfl <;> (simp only[shrI,andI,wr,Zcn];decide)
theorem wr_u8 {n:Nat} (hn:n≤8):wr .u64 (n:Int)=(n:Int):=by
 have h:n=0∨n=1∨n=2∨n=3∨n=4∨n=5∨n=6∨n=7∨n=8:=by omega
 rcases h with rfl|rfl|rfl|rfl|rfl|rfl|rfl|rfl|rfl <;> (simp only[wr,Zcn];decide)
theorem Zja {a:Int} {n:Nat} (hn:n≤8) (n0:0 < n):∀(d c:Nat),c+d=n→0 < c→ZB.l0 (c:Int) (List.replicate c a++List.replicate (n - c) 0)=some (List.replicate n a):=by
 intro d
 induction d using Nat.strongRecOn with
 | _ d ih =>
  intro c hc c0
  have hl:(List.replicate c a++List.replicate (n - c) (0:Int)).length=n:=by rw[List.length_append,List.length_replicate,List.length_replicate];omega
  rw[ZB.l0_eq,hl]
  by_cases h:c < n
  ·
   have e1:(List.replicate c a++List.replicate (n - c) (0:Int)).take ((c:Int).toNat)=List.replicate c a:=by
    rw[Int.toNat_natCast,List.take_append_of_le_length (by rw[List.length_replicate];omega),List.take_of_length_le (by rw[List.length_replicate];omega)]
   have e2:List.take (n - (c:Int).toNat) (List.replicate c a)=List.replicate (min (n - c) c) a:=by rw[Int.toNat_natCast,List.take_replicate]
   have e3:List.drop ((c:Int).toNat+min (n - c) c) (List.replicate c a++List.replicate (n - c) (0:Int))=List.replicate (n - (c+min (n - c) c)) 0:=by
    rw[Int.toNat_natCast,List.drop_append,List.length_replicate,List.drop_of_length_le (by rw[List.length_replicate];omega),List.nil_append,List.drop_replicate]
    congr 1
    omega
   have i1:=ih (d - min (n - c) c) (by omega) (c+min (n - c) c) (by omega) (by omega)
   have e4:List.replicate c a++List.replicate (min (n - c) c) a=List.replicate (c+min (n - c) c) a:=List.replicate_append_replicate
   rw[if_pos (by omega),if_pos (by omega),if_pos (by omega),if_pos (by omega),if_pos (by omega),if_pos (by omega),if_pos (by omega),if_pos (by omega),e1,e2,List.length_replicate,e3,e4,w64 (by omega) (by omega),show(c:Int)+((min (n - c) c:Nat):Int)=((c+min (n - c) c:Nat):Int)by omega]
   exact i1
  ·
   obtain rfl:c=n:=by omega
   rw[if_neg (by omega),Nat.sub_self,List.replicate_zero,List.append_nil]
theorem Zkx {a:Int} {n:Nat} (hn:n≤8) (n0:0 < n):ZB.f [a] (n:Int)=some (List.replicate n a):=by
 have hz1:(([a]:List Int).length:Int)=((1:Nat):Int):=rfl
 have hm:=Zlc hn
 have wn' : wrapI (n:Int)=(n:Int):=w64 (by omega) (by omega)
 have g0:=Zja (a:=a) hn n0 (n - 1) 1 (by omega) (by omega)
 obtain⟨k,rfl⟩:∃k,n=k+1:=⟨n - 1,by omega⟩
 have e1:List.take 0 (List.replicate (k+1) (0:Int))++List.take ((List.replicate (k+1) (0:Int)).length - 0) [a]++List.drop (0+(List.take ((List.replicate (k+1) (0:Int)).length - 0) [a]).length) (List.replicate (k+1) (0:Int))=List.replicate 1 a++List.replicate (k+1 - 1) 0:=by
  rw[List.length_replicate]
  simp[List.replicate_succ]
 have e2:(List.take ((List.replicate (k+1) (0:Int)).length - 0) [a]).length=1:=by
  rw[List.length_replicate]
  simp
 have hl:(List.replicate (k+1) (0:Int)).length=k+1:=List.length_replicate
 rw[ZB.f_eq,if_neg (by omega),hz1,wr_u8 (n:=1) (by omega),wr_u8 hn,bits_Mul.f_eq,show(((1:Nat):Int))=1 from rfl,hm,Option.bind_some,Option.bind_some]
 dsimp only
 rw[if_neg (by omega),if_neg (by omega),wn', if_pos rfl,if_pos (by omega),Int.toNat_natCast,if_pos (by omega),if_pos (by rw[hl];omega),e1,e2]
 exact g0
end Go.Proofs.YthmcpmnhdbeahaaGreat.V
set_option maxHeartbeats 4000000
namespace Go.Proofs.YthmcpmnhdbeahaaGreat.V
open Go Go.RowKit Go.Proofs.YthmcpmnhdbeahaaGreat.D Go.Proofs.YthmcpmnhdbeahaaGreat.P
theorem emS {m a b:Int} (h:m∣a - b):a%m=b%m:=Int.emod_eq_emod_iff_emod_sub_eq_zero.2 (Int.emod_eq_zero_of_dvd h)
theorem ZeI {g:List (List Int)} (hg:Grp g):g.length≤maxLen∧∀r∈g,r.length≤maxLen:=by
 have n8:=hg.n8
 refine⟨Zbo (by omega),fun r hr => ?_⟩
 obtain⟨i,i0,i1,rfl⟩:=Zg0 hr
 have:=hg.row i i0 i1
 exact Zbo (by omega)
theorem ZfC {g:List (List Int)} (hg:Grp g) {m:Int} {u:List Int} (hm:Mdl g m u):ZC.f g [(m,u)]=some 0∧ZG.f g [(m,u)]=some 0:=by
 obtain⟨hl,hr⟩:=ZeI hg
 have n8:=hg.n8;have hlu:=hm.len
 have a:=ZdA g hl hr m u (Zbo (by omega))
 have b:=Ziu (g:=g) (m:=m) (u:=u) (Zbo (by omega))
 rw[ZbG ⟨hg,hm⟩]at a b
 exact⟨a,b⟩
def sumI (l:List Int):Int:=l.foldr (· + ·) 0
theorem Zj7 (l k:List Int):sumI (l++k)=sumI l+sumI k:=by
 induction l with
 | nil=>simp[sumI]
 | cons x l ih=>show x+sumI (l++k)=x+sumI l+sumI k;omega
theorem Zjm {l k:List Int} (h:l.Perm k):sumI l=sumI k:=by
 induction h with
 | nil=>rfl
 | cons x _ ih=>show x+sumI _=x+sumI _;omega
 | swap x y l=>show y+(x+sumI l)=x+(y+sumI l);omega
 | trans _ _ a b=>omega
theorem Ze5 {us:List Int} {k:Nat} (hk:k < us.length):sumI (us.take (k+1))=sumI (us.take k)+rd us (k:Int):=by
 rw[Zdf hk,Zj7]
 show _+(_+0)=_
 omega
theorem Zhz (us:List Int):us=(numL us.length).map fun i=>rd us i:=by
 refine Zhu (by rw[List.length_map,ZfO]) fun i i0 i1 => ?_
 obtain⟨k,rfl⟩:=Int.eq_ofNat_of_zero_le i0
 have hk:k < us.length:=by omega
 rw[rd_get (xs:=(numL us.length).map fun i=>rd us i) (by rw[List.length_map,ZfO];exact hk),List.getElem_map]
 simp[numL]
theorem ZkP {g:List (List Int)} (hg:Grp g) {m:Int} {u:List Int} (hm:Mdl g m u):∃N:Int,ZaL.f g m u=some (N,0)∧ZaM.f g m u=some (N,0)∧0≤N∧N < m∧∀w∈u,m∣(w - 1)*N:=by
 have m2:=hm.m2;have m12:=hm.m12;have n8:=hg.n8;have hl:=hm.len
 obtain⟨cI,cS⟩:=ZfC hg hm
 have ub:∀k:Nat,k < u.length→1≤rd u (k:Int)∧rd u (k:Int) < m:=fun k hk=>hm.at (by omega) (by omega)
 have sb:∀k:Nat,k≤u.length→0≤sumI (u.take k)∧sumI (u.take k)≤12*k:=fun k=>by
  induction k with
  | zero=>intro _;simp[sumI]
  | succ k ih =>
   intro hk
   obtain⟨a,b⟩:=ih (by omega)
   obtain⟨c,d⟩:=ub k (by omega)
   rw[Ze5 (by omega)]
   omega
 have hT:u.take u.length=u:=List.take_length
 have hs:=sb u.length (Nat.le_refl _)
 rw[hT]at hs
 have main1:=up u.length (fun k=>ZaL.l0 (sumI (u.take k)) u (u.length:Int) (k:Int) m u) (fun k hk=>by
  obtain⟨a,b⟩:=ub k hk
  obtain⟨c,d⟩:=sb k (by omega)
  rw[Ze5 hk,ZaL.l0_eq,if_pos (by omega),if_pos (by omega),if_pos (by omega),w64 (x:=sumI (u.take k)+rd u (k:Int)) (by omega) (by omega),wn (j:=k) (by omega)])
 have main2:=up u.length (fun k=>ZaM.l0 (sumI (u.take k)%m) (k:Int) m u) (fun k hk=>by
  obtain⟨a,b⟩:=ub k hk
  have c:=Int.emod_nonneg (sumI (u.take k)) (show m≠0 by omega)
  have d:=Int.emod_lt_of_pos (sumI (u.take k)) (show 0 < m by omega)
  rw[Ze5 hk,ZaM.l0_eq,if_pos (by omega),if_pos (by omega),if_pos (by omega),if_neg (by omega),w64 (x:=sumI (u.take k)%m+rd u (k:Int)) (by omega) (by omega),Zbz (by omega),wn (j:=k) (by omega),Int.emod_add_emod])
 have z0:sumI ([]:List Int)=0:=rfl
 simp only[Int.natCast_zero,List.take_zero,hT,z0,Int.zero_emod]at main1 main2
 refine⟨sumI u%m,?_,?_,Int.emod_nonneg _ (by omega),Int.emod_lt_of_pos _ (by omega),fun w hw => ?_⟩
 ·
  rw[ZaL.f_eq,cI,Option.bind_some,if_pos rfl,main1,ZaL.l0_eq,if_neg (by omega),if_neg (by omega),Zbz hs.1]
 ·
  rw[ZaM.f_eq,cS,Option.bind_some,if_pos rfl,main2,ZaM.l0_eq,if_neg (by omega)]
 ·
  obtain⟨j,hj,e⟩:=List.mem_iff_getElem.1 hw
  have e:rd u (j:Int)=w:=by rw[rd_get hj];exact e
  have hper:((numL g.length).map fun x=>T g (j:Int) x).Perm (numL g.length):=by
   have hnd:((numL g.length).map fun x=>T g (j:Int) x).Nodup:=by
    rw[List.Nodup,List.pairwise_map]
    refine List.Pairwise.imp_of_mem (fun {a b} ha hb hne he=>hne ?_) (Zdk g.length)
    have ha:=Zca.1 ha
    have hb:=Zca.1 hb
    obtain⟨i,i0,i1,_,h2⟩:=hg.inv2 (a:=(j:Int)) (by omega) (by omega)
    have e1:=hg.assoc i (j:Int) a i0 i1 (by omega) (by omega) ha.1 ha.2
    have e2:=hg.assoc i (j:Int) b i0 i1 (by omega) (by omega) hb.1 hb.2
    rw[h2,hg.one a ha.1 ha.2]at e1
    rw[h2,hg.one b hb.1 hb.2]at e2
    rw[e1,e2,he]
   have hsub:∀x∈(numL g.length).map fun x=>T g (j:Int) x,x∈numL g.length:=fun x hx=>by
    obtain⟨y,hy,rfl⟩:=List.mem_map.1 hx
    have hy:=Zca.1 hy
    exact Zca.2 (hg.ent _ _ (by omega) (by omega) hy.1 hy.2)
   refine(List.perm_ext_iff_of_nodup hnd (Zdk _)).2 fun x=>⟨hsub x,fun hx => ?_⟩
   have hx:=Zca.1 hx
   obtain⟨i,i0,i1,h1,_⟩:=hg.inv2 (a:=(j:Int)) (by omega) (by omega)
   obtain⟨t0,t1⟩:=hg.ent i x i0 i1 hx.1 hx.2
   refine List.mem_map.2 ⟨T g i x,Zca.2 ⟨t0,t1⟩,?_⟩
   rw[←hg.assoc (j:Int) i x (by omega) (by omega) i0 i1 hx.1 hx.2,h1,hg.one x hx.1 hx.2]
  have hsum:sumI ((numL g.length).map fun x=>rd u (T g (j:Int) x))=sumI u:=by
   have h1:=Zjm (hper.map fun i=>rd u i)
   rw[List.map_map]at h1
   have h2:=Zhz u
   rw[hl]at h2
   rw[h2]
   rw[←h2]
   exact h1.trans (by rw[←h2])
  have hmul:∀l:List Int,(∀x∈l,InN g.length x)→m∣w*sumI (l.map fun i=>rd u i) - sumI (l.map fun x=>rd u (T g (j:Int) x)):=by
   intro l
   induction l with
   | nil=>intro _;exact⟨0,by simp[sumI]⟩
   | cons x l ih =>
    intro hx
    obtain⟨k,hk⟩:=ih fun y hy=>hx y (List.mem_cons_of_mem _ hy)
    have hx0:=hx x List.mem_cons_self
    have h1:=hm.hom (j:Int) (by omega) (by omega) x hx0.1 (by have:=hx0.2;omega)
    rw[e]at h1
    have h2:=Int.mul_ediv_add_emod (w*rd u x) m
    rw[←h1]at h2
    refine⟨k+w*rd u x / m,?_⟩
    show w*(rd u x+sumI (l.map fun i=>rd u i)) - (rd u (T g (j:Int) x)+sumI (l.map fun x=>rd u (T g (j:Int) x)))=_
    rw[Int.mul_add,Int.mul_add]
    omega
  have h3:=hmul (numL g.length) fun x hx=>Zca.1 hx
  rw[hsum]at h3
  have h4:=Zhz u
  rw[hl]at h4
  rw[←h4]at h3
  obtain⟨k,hk⟩:=h3
  have h5:=Int.mul_ediv_add_emod (sumI u) m
  refine⟨k - (w - 1)*(sumI u / m),?_⟩
  have h6:sumI u%m=sumI u - m*(sumI u / m):=by omega
  rw[h6,Int.mul_sub,Int.sub_mul,Int.one_mul,Int.mul_sub,hk,Int.mul_left_comm]
theorem ZgX {g:List (List Int)} (hg:Grp g) {m:Int} {u:List Int} (hm:Mdl g m u):∃K:List Int,ZaV.f g m u=some (K,0)∧Zai.f g m u=some (K,0)∧0 < K.length∧K.length≤8∧K.length∣g.length:=by
 have m2:=hm.m2;have m12:=hm.m12;have n8:=hg.n8;have n1:=hg.n1;have hl:=hm.len
 obtain⟨cI,cS⟩:=ZfC hg hm
 have hT:=those (g:=g) (by omega) (F:=fun z0=>(ZaI.f z0 m u).map fun z=>z) (p:=fun i=>decide (rd u (i:Int)=1)) (fun i hi=>by
  show Option.map _ (ZaI.f (i:Int) m u)=_
  rw[ZaI.f_eq,if_pos (by omega),if_pos (by omega)]
  rfl)
 have hmem:∀x:Int,x∈(kept g.length fun i=>decide (rd u (i:Int)=1))↔InN g.length x∧rd u x=1:=fun x=>by
  unfold kept
  rw[List.mem_map]
  constructor
  ·
   rintro⟨i,hi,rfl⟩
   rw[List.mem_filter,List.mem_range]at hi
   exact⟨⟨by omega,by omega⟩,by simpa using hi.2⟩
  ·
   rintro⟨⟨h0,h1⟩,h2⟩
   obtain⟨i,rfl⟩:=Int.eq_ofNat_of_zero_le h0
   exact⟨i,List.mem_filter.2 ⟨List.mem_range.2 (by omega),by simpa using h2⟩,rfl⟩
 have hG:Gp g.length (T g):=⟨by omega,fun a b ha hb=>hg.ent a b ha.1 ha.2 hb.1 hb.2,fun a b c ha hb hc=>hg.assoc a b c ha.1 ha.2 hb.1 hb.2 hc.1 hc.2,fun a ha=>hg.one a ha.1 ha.2,fun a ha=>hg.one' a ha.1 ha.2,fun a ha=>by
  obtain⟨b,b0,b1,e⟩:=hg.inv a ha.1 ha.2
  exact⟨b,⟨b0,b1⟩,e⟩⟩
 have h0:(0:Int)∈(kept g.length fun i=>decide (rd u (i:Int)=1)):=(hmem 0).2 ⟨hG.zero,hm.one hg⟩
 have hnd:(kept g.length fun i=>decide (rd u (i:Int)=1)).Nodup:=by
  unfold kept
  rw[List.Nodup,List.pairwise_map]
  exact((List.nodup_range (n:=g.length)).filter _).imp fun h e=>h (by omega)
 have hdv:=hG.sub_dvd hnd (fun z hz=>((hmem z).1 hz).1) h0 (fun a ha b hb=>by
  obtain⟨a1,a2⟩:=(hmem a).1 ha
  obtain⟨b1,b2⟩:=(hmem b).1 hb
  refine(hmem _).2 ⟨hG.ent _ _ a1 b1,?_⟩
  rw[hm.hom a a1.1 (by have:=a1.2;omega) b b1.1 (by have:=b1.2;omega),a2,b2,Int.mul_one,Int.emod_eq_of_lt (by omega) (by omega)]) (fun a ha=>by
  obtain⟨a1,a2⟩:=(hmem a).1 ha
  obtain⟨b,hb,_,e2⟩:=hG.inv2 a1
  refine⟨b,(hmem b).2 ⟨hb,?_⟩,e2⟩
  have h1:=hm.hom b hb.1 (by have:=hb.2;omega) a a1.1 (by have:=a1.2;omega)
  obtain⟨c0,c1⟩:=hm.at hb.1 hb.2
  rw[e2,hm.one hg,a2,Int.mul_one,Int.emod_eq_of_lt (by omega) (by omega)]at h1
  exact h1.symm)
 have hkl:=Zeu g.length fun i=>decide (rd u (i:Int)=1)
 refine⟨kept g.length fun i=>decide (rd u (i:Int)=1),?_,?_,List.length_pos_of_mem h0,by omega,hdv⟩
 ·
  rw[ZaV.f_eq,cI,Option.bind_some,if_pos rfl,hT]
  rfl
 ·
  have main:=up g.length (fun j=>Zai.l0 (j:Int) m u (kept j fun i=>decide (rd u (i:Int)=1))) (fun j hj=>by
   have l1:=Zeu j fun i=>decide (rd u (i:Int)=1)
   have l2:∀x:Int,([x]:List Int).length=1:=fun _=>rfl
   rw[ZdM,Zai.l0_eq,l2,wn (j:=j) (by omega),if_pos (by omega),if_pos (by omega),if_pos (by omega)]
   by_cases h:rd u (j:Int)=1
   ·
    rw[if_pos h,if_pos (c:=decide (rd u (j:Int)=1)=true) (decide_eq_true h),if_pos (by omega)]
   ·
    rw[if_neg h,if_neg (c:=decide (rd u (j:Int)=1)=true) (by simpa using h),List.append_nil])
  have k0:kept 0 (fun i=>decide (rd u (i:Int)=1))=[]:=rfl
  simp only[Int.natCast_zero,k0]at main
  rw[Zai.f_eq,cS,Option.bind_some,if_pos rfl,main,Zai.l0_eq,if_neg (by omega)]
theorem ZhM {g:List (List Int)} (hn:g.length≤8) (m:Int) {F:Int→Option Int} {h:Nat→Int} (hF:∀x:Nat,x < g.length→F (x:Int)=some (h x)):Zar.f g m F=some (m,(List.range g.length).map h):=by
 have l1:∀x:Int,([x]:List Int).length=1:=fun _=>rfl
 have main:=up g.length (fun k=>Zar.l0 F (g.length:Int) (k:Int) 0 m [] ((List.range k).map h)) (fun k hk=>by
  have e:((List.range k).map h).length=k:=by simp
  rw[Zar.l0_eq,if_pos (by omega),hF k hk,Option.bind_some,e,l1,if_pos (by omega),wn (j:=k) (by omega),List.range_succ,List.map_append,List.map_singleton])
 simp only[Int.natCast_zero,List.range_zero,List.map_nil]at main
 rw[Zar.f_eq,Z7.f_eq,Option.bind_some,main,Zar.l0_eq,if_neg (by omega)]
theorem Zlg {n:Nat} {h:Nat→Int} {i:Nat} (hi:i < n):rd ((List.range n).map h) (i:Int)=h i:=by
 rw[rd_get (by rw[List.length_map,List.length_range];exact hi)]
 simp
theorem ZkI {g:List (List Int)} (hg:Grp g):∃iv:Nat→Nat,∀x:Nat,x < g.length→iv x < g.length∧T g (x:Int) (iv x:Int)=0∧Zaf.f g (x:Int)=some (iv x:Int)∧ZU.f g (x:Int)=some (iv x:Int):=by
 have h:∀x:Nat,∃y:Nat,x < g.length→y < g.length∧T g (x:Int) (y:Int)=0∧Zaf.f g (x:Int)=some (y:Int)∧ZU.f g (x:Int)=some (y:Int):=fun x=>by
  by_cases hx:x < g.length
  ·
   obtain⟨b,b0,b1,h1,h2,h3⟩:=Zk8 hg (a:=(x:Int)) (by omega) (by omega)
   obtain⟨y,rfl⟩:=Int.eq_ofNat_of_zero_le b0
   exact⟨y,fun _=>⟨by omega,h1,h2,h3⟩⟩
  ·
   exact⟨0,fun h=>absurd h hx⟩
 obtain⟨f,hf⟩:=Classical.axiomOfChoice h
 exact⟨f,fun x hx=>hf x hx⟩
theorem ZjO {g:List (List Int)} (hg:Grp g) {m:Int} {u:List Int} (hm:Mdl g m u) {a b:Int} (a0:0≤a) (a1:a < g.length) (b0:0≤b) (b1:b < g.length) (h:T g a b=0):rd u a*rd u b%m=1:=by
 have hl:=hm.len
 rw[←hm.hom a a0 (by omega) b b0 (by omega),h,hm.one hg]
theorem ZjN {g:List (List Int)} (hg:Grp g) {a b c:Int} (a0:0≤a) (a1:a < g.length) (b0:0≤b) (b1:b < g.length) (c0:0≤c) (c1:c < g.length) (h1:T g a b=0) (h2:T g b c=0):c=a:=by
 have h:=hg.assoc a b c a0 a1 b0 b1 c0 c1
 rw[h1,h2,hg.one c c0 c1,hg.one' a a0 a1]at h
 exact h
theorem ZiA {g:List (List Int)} (hg:Grp g) {m:Int} {u:List Int} (hm:Mdl g m u):∃w:List Int,Zan.f g m u=some (m,w,0)∧ZT.f g m u=some (m,w,0)∧Mdl g m w∧(∀x:Int,0≤x→x < g.length→∃y:Int,(0≤y∧y < g.length)∧T g x y=0∧rd w x=rd u y):=by
 have m2:=hm.m2;have m12:=hm.m12;have n8:=hg.n8;have n1:=hg.n1;have hl:=hm.len
 obtain⟨cI,cS⟩:=ZfC hg hm
 obtain⟨iv,hiv⟩:=ZkI hg
 have hU:=ZhM (g:=g) n8 m (F:=fun z0=>(Zao.f z0 m u g).map fun z=>z) (h:=fun x=>rd u (iv x:Int)) (fun x hx=>by
  obtain⟨v1,_,v3,_⟩:=hiv x hx
  show Option.map _ (Zao.f (x:Int) m u g)=_
  rw[Zao.f_eq,v3,Option.bind_some,if_pos (by omega),if_pos (by omega)]
  rfl)
 have l1:∀x:Int,([x]:List Int).length=1:=fun _=>rfl
 have main:=up g.length (fun k=>ZT.l0 (k:Int) g m u 0 m ((List.range k).map fun x=>rd u (iv x:Int))) (fun k hk=>by
  obtain⟨v1,_,_,v4⟩:=hiv k hk
  have e:((List.range k).map fun x=>rd u (iv x:Int)).length=k:=by simp
  rw[ZT.l0_eq,if_pos (by omega),v4,Option.bind_some,if_pos (by omega),if_pos (by omega),e,l1,if_pos (by omega),wn (j:=k) (by omega),List.range_succ,List.map_append,List.map_singleton])
 simp only[Int.natCast_zero,List.range_zero,List.map_nil]at main
 have hwl:((List.range g.length).map fun x=>rd u (iv x:Int)).length=g.length:=by simp
 have hrel:∀x:Int,0≤x→x < g.length→∃y:Int,(0≤y∧y < g.length)∧T g x y=0∧rd ((List.range g.length).map fun x=>rd u (iv x:Int)) x=rd u y:=fun x x0 x1=>by
  obtain⟨k,rfl⟩:=Int.eq_ofNat_of_zero_le x0
  obtain⟨v1,v2,_⟩:=hiv k (by omega)
  exact⟨(iv k:Int),⟨by omega,by omega⟩,v2,Zlg (by omega)⟩
 refine⟨(List.range g.length).map fun x=>rd u (iv x:Int),?_,?_,⟨m2,m12,hwl,fun i i0 i1 => ?_,fun i i0 i1 j j0 j1 => ?_⟩,hrel⟩
 ·
  rw[Zan.f_eq,cI,Option.bind_some,if_pos rfl,hU]
  rfl
 ·
  rw[ZT.f_eq,cS,Option.bind_some,if_pos rfl,main,ZT.l0_eq,if_neg (by omega)]
 ·
  obtain⟨y,⟨y0,y1⟩,_,e⟩:=hrel i i0 (by omega)
  rw[e]
  exact hm.unit y y0 (by omega)
 ·
  obtain⟨a,⟨a0,a1⟩,ha,ea⟩:=hrel i i0 (by omega)
  obtain⟨b,⟨b0,b1⟩,hb,eb⟩:=hrel j j0 (by omega)
  obtain⟨t0,t1⟩:=hg.ent i j i0 (by omega) j0 (by omega)
  obtain⟨c,⟨c0,c1⟩,hc,ec⟩:=hrel (T g i j) t0 t1
  obtain⟨s0,s1⟩:=hg.ent b a b0 b1 a0 a1
  have hba:T g (T g i j) (T g b a)=0:=by
   rw[hg.assoc i j _ i0 (by omega) j0 (by omega) s0 s1,←hg.assoc j b a j0 (by omega) b0 b1 a0 a1,hb,hg.one a a0 a1,ha]
  have hcb:c=T g b a:=by
   obtain⟨d,d0,d1,hd⟩:=hg.inv (T g b a) s0 s1
   obtain⟨f,f0,f1,hf1,hf2⟩:=hg.inv2 t0 t1
   have q1:=hg.assoc f (T g i j) c f0 f1 t0 t1 c0 c1
   have q2:=hg.assoc f (T g i j) (T g b a) f0 f1 t0 t1 s0 s1
   rw[hf2,hg.one c c0 c1,hc]at q1
   rw[hf2,hg.one _ s0 s1,hba]at q2
   rw[q1,q2]
  rw[ec,hcb,ea,eb,hm.hom b b0 (by omega) a a0 (by omega),Int.mul_comm]
theorem ZdC {g:List (List Int)} (hg:Grp g) {m:Int} {u w:List Int} (hu:Mdl g m u) (hw:Mdl g m w):ZK.f g m u m w=some (m,(List.range g.length).map fun x:Nat=>rd u (x:Int)*rd w (x:Int)%m,0)∧Zz.f g m u m w=some (m,(List.range g.length).map fun x:Nat=>rd u (x:Int)*rd w (x:Int)%m,0):=by
 have m2:=hu.m2;have m12:=hu.m12;have n8:=hg.n8;have n1:=hg.n1;have hl:=hu.len;have hlw:=hw.len
 obtain⟨hgl,hgr⟩:=ZeI hg
 have cI:=Zit hgl hgr (m:=m) (m' := m) (u:=u) (u' := w) (Zbo (by omega)) (Zbo (by omega))
 have cS:=Ziv (g:=g) (m:=m) (m' := m) (u:=u) (u' := w) (Zbo (by omega)) (Zbo (by omega))
 rw[ZbG ⟨⟨hg,hu⟩,hg,hw⟩]at cI cS
 have pb:∀k:Nat,k < g.length→0≤rd u (k:Int)*rd w (k:Int)∧rd u (k:Int)*rd w (k:Int)≤1000000:=fun k hk=>by
  obtain⟨a0,a1⟩:=hu.at (x:=(k:Int)) (by omega) (by omega)
  obtain⟨b0,b1⟩:=hw.at (x:=(k:Int)) (by omega) (by omega)
  exact ZbE (m:=1000) (by omega) (by omega) (by omega) (by omega) (by omega)
 have hU:=ZhM (g:=g) n8 m (F:=fun z0=>(ZY.f z0 m u m w).map fun z=>z) (h:=fun x=>rd u (x:Int)*rd w (x:Int)%m) (fun x hx=>by
  obtain⟨p0,p1⟩:=pb x hx
  show Option.map _ (ZY.f (x:Int) m u m w)=_
  rw[ZY.f_eq,if_pos (by omega),if_pos (by omega),if_pos (by omega),if_pos (by omega),if_neg (by omega),w64 (x:=rd u (x:Int)*rd w (x:Int)) (by omega) (by omega),Zbz p0]
  rfl)
 have l1:∀x:Int,([x]:List Int).length=1:=fun _=>rfl
 have main:=up g.length (fun k=>Zz.l0 (k:Int) m u m w 0 m ((List.range k).map fun x:Nat=>rd u (x:Int)*rd w (x:Int)%m)) (fun k hk=>by
  obtain⟨p0,p1⟩:=pb k hk
  have e:((List.range k).map fun x:Nat=>rd u (x:Int)*rd w (x:Int)%m).length=k:=by simp
  rw[Zz.l0_eq,if_pos (by omega),if_pos (by omega),if_pos (by omega),if_pos (by omega),if_pos (by omega),if_neg (by omega),w64 (x:=rd u (k:Int)*rd w (k:Int)) (by omega) (by omega),Zbz p0,e,l1,if_pos (by omega),wn (j:=k) (by omega),List.range_succ,List.map_append,List.map_singleton])
 simp only[Int.natCast_zero,List.range_zero,List.map_nil]at main
 refine⟨?_,?_⟩
 ·
  rw[ZK.f_eq,cI,Option.bind_some,if_pos rfl,if_pos rfl,Zaq.f_eq,hU]
  rfl
 ·
  rw[Zz.f_eq,cS,Option.bind_some,if_pos rfl,if_pos rfl,main,Zz.l0_eq,if_neg (by omega)]
theorem Zh8 {g:List (List Int)} (hg:Grp g) {m:Int} (m2:2≤m) (m12:m≤12):Z6.f g m=some (m,List.replicate g.length 1,0):=by
 obtain⟨hl,hr⟩:=ZeI hg
 have hG:=ZgW g hl hr
 have hM:=Zc6 m
 rw[B_pos hg]at hG
 rw[B_pos ⟨m2,m12⟩]at hM
 rw[Z6.f_eq,hG,Option.bind_some,if_pos rfl,hM,Option.bind_some,if_pos rfl,Zba.f_eq,Zkx hg.n8 hg.n1]
 rfl
end Go.Proofs.YthmcpmnhdbeahaaGreat.V
set_option maxRecDepth 100000
namespace Go.Proofs.YthmcpmnhdbeahaaGreat.P
open Go Go.RowKit Go.Proofs.YthmcpmnhdbeahaaGreat.D
end Go.Proofs.YthmcpmnhdbeahaaGreat.P
namespace Go.Proofs.YthmcpmnhdbeahaaGreat.P
open Go Go.RowKit Go.Proofs.YthmcpmnhdbeahaaGreat.D
end Go.Proofs.YthmcpmnhdbeahaaGreat.P
namespace Go.Proofs.YthmcpmnhdbeahaaGreat.P
open Go Go.RowKit Go.Proofs.YthmcpmnhdbeahaaGreat.D
end Go.Proofs.YthmcpmnhdbeahaaGreat.P
namespace Go.Proofs.YthmcpmnhdbeahaaGreat.P
open Go Go.RowKit Go.Proofs.YthmcpmnhdbeahaaGreat.D
end Go.Proofs.YthmcpmnhdbeahaaGreat.P
namespace Go.Proofs.YthmcpmnhdbeahaaGreat.P
open Go Go.RowKit Go.Proofs.YthmcpmnhdbeahaaGreat.D
end Go.Proofs.YthmcpmnhdbeahaaGreat.P
namespace Go.Proofs.YthmcpmnhdbeahaaGreat.P
open Go Go.RowKit Go.Proofs.YthmcpmnhdbeahaaGreat.D
end Go.Proofs.YthmcpmnhdbeahaaGreat.P
namespace Go.Proofs.YthmcpmnhdbeahaaGreat.P
open Go Go.RowKit Go.Proofs.YthmcpmnhdbeahaaGreat.D
end Go.Proofs.YthmcpmnhdbeahaaGreat.P
namespace Go.Proofs.YthmcpmnhdbeahaaGreat.P
open Go Go.RowKit Go.Proofs.YthmcpmnhdbeahaaGreat.D
end Go.Proofs.YthmcpmnhdbeahaaGreat.P
namespace Go.Proofs.YthmcpmnhdbeahaaGreat.P
open Go Go.RowKit Go.Proofs.YthmcpmnhdbeahaaGreat.D
end Go.Proofs.YthmcpmnhdbeahaaGreat.P
namespace Go.Proofs.YthmcpmnhdbeahaaGreat.P
open Go Go.RowKit Go.Proofs.YthmcpmnhdbeahaaGreat.D
end Go.Proofs.YthmcpmnhdbeahaaGreat.P
namespace Go.Proofs.YthmcpmnhdbeahaaGreat.P
open Go Go.RowKit Go.Proofs.YthmcpmnhdbeahaaGreat.D
end Go.Proofs.YthmcpmnhdbeahaaGreat.P
namespace Go.Proofs.YthmcpmnhdbeahaaGreat.P
open Go Go.RowKit Go.Proofs.YthmcpmnhdbeahaaGreat.D
end Go.Proofs.YthmcpmnhdbeahaaGreat.P
namespace Go.Proofs.YthmcpmnhdbeahaaGreat.P
open Go Go.RowKit Go.Proofs.YthmcpmnhdbeahaaGreat.D
end Go.Proofs.YthmcpmnhdbeahaaGreat.P
namespace Go.Proofs.YthmcpmnhdbeahaaGreat.P
open Go Go.RowKit Go.Proofs.YthmcpmnhdbeahaaGreat.D
end Go.Proofs.YthmcpmnhdbeahaaGreat.P
namespace Go.Proofs.YthmcpmnhdbeahaaGreat.P
open Go Go.RowKit Go.Proofs.YthmcpmnhdbeahaaGreat.D
end Go.Proofs.YthmcpmnhdbeahaaGreat.P
namespace Go.Proofs.YthmcpmnhdbeahaaGreat.P
open Go Go.RowKit Go.Proofs.YthmcpmnhdbeahaaGreat.D
end Go.Proofs.YthmcpmnhdbeahaaGreat.P
namespace Go.Proofs.YthmcpmnhdbeahaaGreat.P
open Go Go.RowKit Go.Proofs.YthmcpmnhdbeahaaGreat.D
end Go.Proofs.YthmcpmnhdbeahaaGreat.P
namespace Go.Proofs.YthmcpmnhdbeahaaGreat.V
open Go.RowKit Go.Proofs.YthmcpmnhdbeahaaGreat.D
abbrev Vc:=Nat→Int
inductive Sp (m:Int) (W:Nat) (G:Vc→Prop):Vc→Prop
 | nil:Sp m W G (fun _=>0)
 | add {x g:Vc} (c:Int):Sp m W G x→G g→Sp m W G (fun i=>x i+c*g i)
 | alike {x y:Vc}:Sp m W G x→(∀i,i < W→m∣x i - y i)→Sp m W G y
section
variable {m:Int} {W:Nat} {G G' : Vc→Prop} {x y:Vc}
theorem ZbA {m a b:Int} (h:a=b):m∣a - b:=⟨0,by omega⟩
theorem Sp.plus (hx:Sp m W G x) (hy:Sp m W G y):Sp m W G (fun i=>x i+y i):=by
 induction hy with
 | nil=>exact .alike hx fun i _=>ZbA (by dsimp only;omega)
 | add c _ hg ih=>exact .alike (.add c ih hg) fun i _=>ZbA (by dsimp only;omega)
 | alike _ h ih =>
  refine .alike ih fun i hi => ?_
  have:=h i hi
  rwa[show ∀a b c:Int,a+b - (a+c)=b - c from fun a b c=>by omega]
theorem Sp.mul (c:Int) (hx:Sp m W G x):Sp m W G (fun i=>c*x i):=by
 induction hx with
 | nil=>exact .alike .nil fun i _=>ZbA (by simp)
 | add d _ hg ih=>exact .alike (.add (c*d) ih hg) fun i _=>ZbA (by rw[Int.mul_add,Int.mul_assoc])
 | alike _ h ih =>
  refine .alike ih fun i hi => ?_
  rw[←Int.mul_sub]
  exact Int.dvd_mul_of_dvd_right (h i hi)
theorem Sp.gen {g:Vc} (h:G g):Sp m W G g := .alike (.add 1 .nil h) fun i _=>ZbA (by omega)
theorem Sp.mono (h:∀g,G g→Sp m W G' g) (hx:Sp m W G x):Sp m W G' x:=by
 induction hx with
 | nil=>exact .nil
 | add c _ hg ih=>exact ih.plus ((h _ hg).mul c)
 | alike _ h' ih=>exact .alike ih h'
theorem Sp.two {a b:Int} (hx:Sp m W G x) (hy:Sp m W G y) {z:Vc} (h:∀i,i < W→m∣a*x i+b*y i - z i):Sp m W G z := .alike ((hx.mul a).plus (hy.mul b)) h
theorem Sp.dvd {d:Int} (hd:d∣m) {i:Nat} (hi:i < W) (h:∀g,G g→d∣g i) (hx:Sp m W G x):d∣x i:=by
 induction hx with
 | nil=>exact Int.dvd_zero d
 | add c _ hg ih=>exact Int.dvd_add ih (Int.dvd_mul_of_dvd_right (h _ hg))
 | alike _ h' ih =>
  have:=Int.dvd_sub ih (Int.dvd_trans hd (h' i hi))
  rwa[show ∀a b:Int,a - (a - b)=b from fun a b=>by omega]at this
structure Sub (m:Int) (W:Nat) (M:Vc→Prop):Prop where
 zero:M fun _=>0
 lin:∀x y,M x→M y→∀c,M fun i=>x i+c*y i
 alike:∀x y,M x→(∀i,i < W→m∣x i - y i)→M y
theorem Sp.sub:Sub m W (Sp m W G):=⟨.nil,fun _ _ hx hy c=>hx.plus (hy.mul c),fun _ _ hx h => .alike hx h⟩
theorem Sub.all {M:Vc→Prop} (hM:Sub m W M) (h:∀g,G g→M g) (hx:Sp m W G x):M x:=by
 induction hx with
 | nil=>exact hM.zero
 | add c _ hg ih=>exact hM.lin _ _ ih (h _ hg) c
 | alike _ h' ih=>exact hM.alike _ _ ih h'
end
def V (x:List Int):Vc:=fun i=>rd x (i:Int)
structure PRow (m:Int) (W j:Nat) (r:List Int):Prop where
 len:r.length=W
 ent:AllIn m r
 zero:∀i:Nat,i < j→rd r (i:Int)=0
 pos:0 < rd r (j:Int)
 lt:rd r (j:Int) < m
 dvd:rd r (j:Int)∣m
structure PTab (m:Int) (W:Nat) (p:List (List Int)):Prop where
 len:p.length=W
 rws:∀j:Nat,j < W→row p (j:Int)=[]∨PRow m W j (row p (j:Int))
def Rws (W:Nat) (p:List (List Int)) (k:Nat):Vc→Prop:=fun g=>∃j:Nat,k≤j∧j < W∧row p (j:Int)≠[]∧g=V (row p (j:Int))
def GT (W:Nat) (p st:List (List Int)) (k:Nat):Vc→Prop:=fun g=>Rws W p k g∨∃s∈st,(∀i:Nat,i < k→rd s (i:Int)=0)∧g=V s
def How (m:Int) (W:Nat) (p:List (List Int)) (G:Nat→Vc→Prop):Prop:=∀j:Nat,j < W→row p (j:Int)≠[]→Sp m W (G (j+1)) (fun i=>m / rd (row p (j:Int)) (j:Int)*rd (row p (j:Int)) (i:Int))
structure Inv (m:Int) (W:Nat) (p st:List (List Int)):Prop where
 tab:PTab m W p
 sts:∀s∈st,s.length=W∧AllIn m s
 how:How m W p (GT W p st)
def dv (m:Int) (p:List (List Int)) (j:Nat):Int:=if row p (j:Int)=[]then m else rd (row p (j:Int)) (j:Int)
structure Lead (m:Int) (W:Nat) (p:List (List Int)) (M:Vc→Prop):Prop where
 tab:PTab m W p
 sub:Sub m W M
 own:∀j:Nat,j < W→row p (j:Int)≠[]→M (V (row p (j:Int)))
 lead:∀x,M x→∀j:Nat,j < W→(∀i:Nat,i < j→m∣x i)→dv m p j∣x j
section
variable {m:Int} {W:Nat} {p:List (List Int)}
theorem PTab.prow (h:PTab m W p) {j:Nat} (hj:j < W) (hr:row p (j:Int)≠[]):PRow m W j (row p (j:Int)):=(h.rws j hj).resolve_left hr
theorem Rws.zero (h:PTab m W p) {k j:Nat} {g:Vc} (hg:Rws W p k g) (hj:j < k):g j=0:=by
 obtain⟨i,h1,h2,h3,rfl⟩:=hg
 exact(h.prow h2 h3).zero j (by omega)
theorem Rws.part {k:Nat} (hk:k < W) (hr:row p (k:Int)≠[]) {x:Vc} (hx:Sp m W (Rws W p k) x):∃(c:Int) (w:Vc),Sp m W (Rws W p (k+1)) w∧∀i,i < W→m∣c*V (row p (k:Int)) i+w i - x i:=by
 induction hx with
 | nil=>exact⟨0,_,.nil,fun i _=>ZbA (by simp)⟩
 | add d _ hg ih =>
  obtain⟨c,w,h1,h2⟩:=ih
  obtain⟨j,j1,j2,j3,rfl⟩:=hg
  by_cases e:j=k
  ·
   subst e
   refine⟨c+d,w,h1,fun i hi => ?_⟩
   have:=h2 i hi
   rw[Int.add_mul]
   rwa[show ∀a b c d:Int,a+b+c - (d+b)=a+c - d from fun a b c d=>by omega]
  ·
   refine⟨c,_,.add d h1 ⟨j,by omega,j2,j3,rfl⟩,fun i hi => ?_⟩
   have:=h2 i hi
   dsimp only
   rwa[show ∀a b c d:Int,a+(b+c) - (d+c)=a+b - d from fun a b c d=>by omega]
 | alike _ h ih =>
  obtain⟨c,w,h1,h2⟩:=ih
  refine⟨c,w,h1,fun i hi => ?_⟩
  have:=Int.dvd_add (h2 i hi) (h i hi)
  rwa[show ∀a b c:Int,a - b+(b - c)=a - c from fun a b c=>by omega]at this
theorem Rws.next {k:Nat} (hr:row p (k:Int)=[]) {x:Vc} (hx:Sp m W (Rws W p k) x):Sp m W (Rws W p (k+1)) x:=hx.mono fun g ⟨j,j1,j2,j3,e⟩ => .gen ⟨j,by
 rcases Nat.lt_or_eq_of_le j1 with h|rfl
 ·
  exact h
 ·
  exact absurd hr j3,j2,j3,e⟩
theorem Rws.down (m0:0 < m) (ht:PTab m W p) (hh:How m W p (Rws W p)) {x:Vc} (hx:Sp m W (Rws W p 0) x) {j:Nat} (hj:j≤W) (hz:∀i:Nat,i < j→m∣x i):∀k,k≤j→Sp m W (Rws W p k) x:=by
 intro k
 induction k with
 | zero=>exact fun _=>hx
 | succ k ih =>
  intro hk
  have h:=ih (by omega)
  by_cases hr:row p (k:Int)=[]
  ·
   exact Rws.next hr h
  have hp:=ht.prow (by omega) hr
  obtain⟨c,w,h1,h2⟩:=Rws.part (by omega) hr h
  have hw:m∣w k:=h1.dvd (Int.dvd_refl m) (by omega) fun g hg=>by rw[Rws.zero ht hg (by omega)];exact Int.dvd_zero m
  have hc:m∣c*rd (row p (k:Int)) (k:Int):=by
   have:=Int.dvd_add (h2 k (by omega)) (hz k (by omega))
   rw[show ∀a b c:Int,a+b - c+c=a+b from fun a b c=>by omega]at this
   have:=Int.dvd_sub this hw
   rwa[show ∀a b:Int,a+b - b=a from fun a b=>by omega]at this
  obtain⟨q,hq⟩:=hp.dvd
  have hd:=hp.pos
  have hmd:m / rd (row p (k:Int)) (k:Int)=q:=by rw[hq];exact Int.mul_ediv_cancel_left _ (by omega)
  obtain⟨t,ht'⟩:q∣c:=by
   obtain⟨t,ht'⟩:=hc
   refine⟨t,Int.eq_of_mul_eq_mul_left (show rd (row p (k:Int)) (k:Int)≠0 by omega) ?_⟩
   rw[Int.mul_comm,ht', hq,Int.mul_assoc]
  have hH:=hh k (by omega) hr
  rw[hmd]at hH
  refine .alike ((hH.mul t).plus h1) fun i hi => ?_
  have:=h2 i hi
  rwa[show t*(q*rd (row p (k:Int)) (i:Int))=c*V (row p (k:Int)) i by rw[ht', ←Int.mul_assoc,Int.mul_comm t q];rfl]
theorem ZkJ (m0:0 < m) (ht:PTab m W p) (hh:How m W p (Rws W p)) {M:Vc→Prop} (hM:∀x,Sp m W (Rws W p 0) x↔M x):Lead m W p M where
 tab:=ht
 sub:=by rw[show M=Sp m W (Rws W p 0)from funext fun x=>propext (hM x).symm];exact Sp.sub
 own:=fun j hj hr=>(hM _).1 (.gen ⟨j,Nat.zero_le _,hj,hr,rfl⟩)
 lead:=fun x hx j hj hz=>by
  have h:=Rws.down m0 ht hh ((hM x).2 hx) (Nat.le_of_lt hj) hz j (Nat.le_refl _)
  unfold dv
  by_cases hr:row p (j:Int)=[]
  ·
   rw[if_pos hr]
   exact(Rws.next hr h).dvd (Int.dvd_refl m) hj fun g hg=>by rw[Rws.zero ht hg (by omega)];exact Int.dvd_zero m
  ·
   rw[if_neg hr]
   have hp:=ht.prow hj hr
   refine h.dvd hp.dvd hj fun g hg => ?_
   obtain⟨i,i1,i2,i3,rfl⟩:=hg
   by_cases e:i=j
   ·
    subst e;exact Int.dvd_refl _
   ·
    have:V (row p (i:Int)) j=0:=(ht.prow i2 i3).zero j (by omega)
    rw[this];exact Int.dvd_zero _
theorem dv_bd (m0:0 < m) (ht:PTab m W p) {j:Nat} (hj:j < W):0 < dv m p j∧dv m p j≤m∧dv m p j∣m:=by
 unfold dv
 by_cases hr:row p (j:Int)=[]
 ·
  rw[if_pos hr];exact⟨m0,Int.le_refl _,Int.dvd_refl _⟩
 ·
  rw[if_neg hr]
  have hp:=ht.prow hj hr
  exact⟨hp.pos,by have:=hp.lt;omega,hp.dvd⟩
theorem ZiC {a b:Int} (ha:0 < a) (hb:0 < b) (h:a∣b):a≤b:=Int.le_of_dvd hb h
theorem ZkE (m0:0 < m) {p' : List (List Int)} {M:Vc→Prop} (h:Lead m W p M) (h' : Lead m W p' M) {j:Nat} (hj:j < W):dv m p j=dv m p' j:=by
 have key:∀{p p' : List (List Int)},Lead m W p M→Lead m W p' M→dv m p j∣dv m p' j:=fun {p p'} h h' => by
  by_cases hr:row p' (j:Int)=[]
  ·
   rw[show dv m p' j=m from if_pos hr];exact(dv_bd m0 h.tab hj).2.2
  ·
   rw[show dv m p' j=rd (row p' (j:Int)) (j:Int)from if_neg hr]
   have hp:=h'.tab.prow hj hr
   exact h.lead _ (h'.own j hj hr) j hj fun i hi=>by rw[show V (row p' (j:Int)) i=0 from hp.zero i hi];exact Int.dvd_zero m
 have a:=ZiC (dv_bd m0 h.tab hj).1 (dv_bd m0 h'.tab hj).1 (key h h')
 have b:=ZiC (dv_bd m0 h'.tab hj).1 (dv_bd m0 h.tab hj).1 (key h' h)
 omega
structure Least (m:Int) (W:Nat) (p:List (List Int)) (M:Vc→Prop) (x y:List Int):Prop where
 len:y.length=W
 ent:AllIn m y
 dif:M fun i=>rd x (i:Int) - rd y (i:Int)
 lt:∀j:Nat,j < W→rd y (j:Int) < dv m p j
theorem Least.same (m0:0 < m) {p' : List (List Int)} {M:Vc→Prop} (h:Lead m W p M) (h' : Lead m W p' M) {x y y' : List Int} (hy:Least m W p M x y) (hy' : Least m W p' M x y'):y=y' := by
 have hd:M fun i=>rd y (i:Int) - rd y' (i:Int):=by
  refine h.sub.alike _ _ (h.sub.lin _ _ hy'.dif hy.dif (-1)) fun i _=>ZbA ?_
  omega
 have hall:∀n,n≤W→∀i:Nat,i < n→rd y (i:Int)=rd y' (i:Int):=by
  intro n
  induction n with
  | zero=>intro _ i hi;omega
  | succ n ih =>
   intro hn i hi
   have ih:=ih (by omega)
   by_cases e:i=n
   ·
    subst e
    have hl:=h.lead _ hd i (by omega) fun k hk=>by rw[ih k hk];exact⟨0,by omega⟩
    have a1:=hy.lt i (by omega)
    have a2:=hy'.lt i (by omega)
    rw[←ZkE m0 h h' (show i < W by omega)]at a2
    obtain⟨b1,_⟩:=hy.ent i (by omega) (by rw[hy.len];omega)
    obtain⟨b2,_⟩:=hy'.ent i (by omega) (by rw[hy'.len];omega)
    have hd0:=(dv_bd m0 h.tab (show i < W by omega)).1
    obtain⟨q,hq⟩:=hl
    have q0:q=0:=by
     rcases Int.lt_trichotomy q 0 with h|h|h
     ·
      have:=Int.mul_le_mul_of_nonneg_left (show q ≤ -1 by omega) (Int.le_of_lt hd0)
      omega
     ·
      exact h
     ·
      have:=Int.mul_le_mul_of_nonneg_left (show 1≤q by omega) (Int.le_of_lt hd0)
      omega
    rw[q0]at hq
    omega
   ·
    exact ih i (by omega)
 refine Zhu (by rw[hy.len,hy'.len]) fun i i0 i1 => ?_
 obtain⟨n,rfl⟩:=Int.eq_ofNat_of_zero_le i0
 exact hall W (Nat.le_refl _) n (by have:=hy.len;omega)
end
end Go.Proofs.YthmcpmnhdbeahaaGreat.V
