/- What the proof of the law CrossedMaps stands on, part 5: words, each Go function's Lean function, and that the Go code comes to its answers; no condition. (Packed by wip/myprint/pack.py out of what the kit's printer wrote, its words among it, partly by our patches of it, and out of texts of this session.) -/
import Derived.ChangeSlices
import Derived.ChangeSame
import Derived.Deep.Matrix
import Derived.Lib.SmallJoins
import Derived.Test.YthmcpmnhdbeahaaGreatKCrossedMaps3
import Derived.Test.YthmcpmnhdbeahaaGreatKCrossedMaps4
set_option linter.unusedVariables false
set_option linter.unusedSimpArgs false
namespace Go.Proofs.YthmcpmnhdbeahaaGreat.D
open Go Go.RowKit
theorem ZjN {P:Program} {g:FuncId} {c:Con} (hv:Valid P g c) {x:lsd (flats c.ins)} {r:c.R} (hx:c.f x=some r) {w:World} {vs:List Value} (ha:ASRs P (fun _=>False) (fun k=>k < w.heap.size) w c.ins x vs (fun _=>False)) :
  Calls P g vs.toArray w fun e w' => ∃u,e = .returned u∧Below w.heap.size w w' ∧ ∃Z' Fo us,u=outV us∧ASRs P (fun _=>False) Z' w' c.outs (c.dec r).1 us Fo:=by
 refine(hv.2 x r hx (fun k=>k < w.heap.size) (fun _=>False) (fun _=>False) w vs ha (fun _ h=>h.elim) (fun _ h=>h) (fun _ h=>h.elim)).mono ?_
 rintro e w' ⟨u,rfl,Z', Fi,Fo,hp⟩
 obtain⟨us,hu,ho⟩:=hp.out
 exact⟨u,rfl,⟨hp.os,hp.tape,hp.output,hp.size,fun k hk=>hp.old k hk fun h=>h⟩,Z', Fo,us,hu,ho⟩
theorem Zmu {w:World} {a:Addr} {v:Value} (h:w.cell? a=some v):a.block < w.heap.size:=by
 unfold World.cell? at h
 cases hb:w.heap[a.block]? with
 | none=>rw[hb]at h;cases h
 | some o=>exact(Array.getElem?_eq_some_iff.1 hb).1
theorem Zl0 {α : Type} {w:World} {sz:Nat} {R : α → List Value→Prop} {A:Option Addr} {c:Nat} {xs:List α} (hz:0 < sz) (hc:xs.length≤c) (hm:xs.length≤9223372036854775807)
  (h:0 < xs.length→∃ad,A=some ad∧∀(j:Nat) (p : α),xs[j]? = some p→∃cs,cs.length=sz∧R p cs∧∀(i:Nat) (u:Value),cs[i]? = some u→w.cell? (ad.add (j*sz+i))=some u):Zdi (fun k=>k < w.heap.size) w sz R A c xs:=by
 refine⟨hc,hm,fun hl => ?_⟩
 obtain⟨ad,rfl,hcell⟩:=h hl
 refine⟨ad,rfl,?_,hcell⟩
 obtain⟨cs,h1,h2,h3⟩:=hcell 0 xs[0] (List.getElem?_eq_getElem hl)
 have:=Zmu (h3 0 cs[0] (List.getElem?_eq_getElem (by omega)))
 rwa[ZdA]at this
theorem ZlE {P:Program} {g:FuncId} {c:Con} (hv:Valid P g c) {x:lsd (flats c.ins)} {r:c.R} (hx:c.f x=some r) {w:World} {vs:List Value} (ha:ASRs P (fun _=>False) (fun k=>k < w.heap.size) w c.ins x vs (fun _=>False)) (ho:c.outs=[.one (.v .bool)]) (hr:∀y:lsd (flats [.one (.v .bool)]),HEq y (c.dec r).1→y.1=true) :
  Calls P g vs.toArray w fun e w' => e = .returned (.bool true)∧Below w.heap.size w w' := by
 refine(ZjN hv hx ha).mono ?_
 rintro e w' ⟨u,rfl,hb,Z', Fo,us,rfl,hh⟩
 refine⟨?_,hb⟩
 obtain⟨ins,outs,R,f,dec⟩:=c
 have ho:outs=[.one (.v .bool)]:=ho
 subst ho
 obtain⟨v,vs', F0,F1,rfl,h1,h2,_⟩:=hh
 cases h2
 have h1:[v]=[.bool (dec r).1.1]:=h1
 have hb1:(dec r).1.1=true:=hr _ HEq.rfl
 cases h1
 rw[hb1]
 rfl
end Go.Proofs.YthmcpmnhdbeahaaGreat.D
namespace Go.Proofs.YthmcpmnhdbeahaaGreat.D
open Go Go.RowKit Go.ChangeShapes Go.WideShapes Go.Joins Go.Deep
section
variable {H:Type} {enc:TypeId×Value→H} {P:Program} {w:World} {base:Nat} {held:Bool}
abbrev Zw (w:World):Nat→Prop:=fun k=>k < w.heap.size
abbrev No:Nat→Prop:=fun _=>False
theorem ZlL {q:TypeId} (hn:nf q=false) {k:IntKind} {a:Addr} {len cap:Nat} {zs:List Int} (hl:len≤cap) (hm:cap≤maxLen) (hz:zs.length=cap) (hc:∀i,i < zs.length→w.cell? (a.add i)=some (.int k (zs.getD i 0))) (hw:∀n∈zs,(Lit.int k n).wf=true) :
  ∃l:List Int,len=l.length∧l.length≤maxLen∧(∀x∈l,(Lit.int k x).wf=true)∧Rep (Zw w) w false (.sl q (.int k)) l [.slice (some a) len cap] No:=by
 have hlen:(zs.take len).length=len:=by rw[List.length_take];omega
 refine⟨zs.take len,hlen.symm,by omega,fun x hx=>hw x (List.mem_of_mem_take hx),some a,cap,by rw[hlen],?_,fun h=>by rw[hn]at h;cases h⟩
 refine Zl0 Nat.one_pos (by show(zs.take len).length≤_;omega) (by show(zs.take len).length≤_;simp only[maxLen]at hm;omega) fun _=>⟨a,rfl,fun j p hj => ?_⟩
 have hj:(zs.take len)[j]? = some p:=hj
 have hjl:j < len:=by
  have:=(List.getElem?_eq_some_iff.1 hj).1
  omega
 refine⟨[.int k p],rfl,rfl,fun i u hu => ?_⟩
 cases i with
 | zero =>
  simp only[List.getElem?_cons_zero,Option.some.injEq]at hu
  subst hu
  have h:=hc j (by omega)
  have hp:zs.getD j 0=p:=by
   rw[List.getElem?_take]at hj
   simp only[hjl,if_true]at hj
   simp[List.getD,hj]
  rw[hp]at h
  simpa [Ty.size] using h
 | succ i=>simp at hu
theorem ZlM {q:TypeId} {t:Ty}:Rep (Zw w) w false (.sl q t) ([]:List t.den) [.slice none 0 0] No :=
 ⟨none,0,rfl,⟨Nat.le_refl _,Nat.zero_le _,fun h=>absurd h (by simp)⟩,fun _ _=>rfl⟩
theorem Zj6 {t e:TypeId} {k:IntKind} {fuel:Nat} {v:Value} {x:DataW H×List MemPlace} (ht:P.underlying t=some (.slice e)) (he:P.underlying e=some (.int k)) (hc:P.cellsOf e=1)
  (h:DataW.trod enc P w base (fun _=>true) held fuel t [v]=some x) (hn:nf e=false:=by rfl) :
  ∃l:List Int,l.length≤maxLen∧(∀x∈l,(Lit.int k x).wf=true)∧Rep (Zw w) w false (.sl e (.int k)) l [v] No:=by
 rcases open_ints ht he hc h with ⟨hcs,_⟩|⟨a,len,cap,zs,hcs,_,hl,hm,hz,_,hcell,hw⟩
 ·
  refine⟨[],by simp,by simp,?_⟩
  rw[hcs]
  exact ZlM
 ·
  simp only[if_true]at hz
  obtain⟨l,h1,h2,h3,h4⟩:=ZlL (q:=e) hn hl hm hz hcell hw
  exact⟨l,h2,h3,by rw[hcs];exact h4⟩
theorem Zlj:ASRs P No (Zw w) w [] () [] No:=rfl
theorem Zlk {t:Ty} {x:t.den} {v:Value} {ins:List ASh} {y:lsd (flats ins)} {vs:List Value} (h:Rep (Zw w) w false t x [v] No) (hr:ASRs P No (Zw w) w ins y vs No):ASRs P No (Zw w) w (.one (.v t) :: ins) (x,y) (v :: vs) No :=
 ⟨v,vs,No,No,rfl,h,hr,fun _ h=>h,fun _ h=>h,fun _ h=>h.elim⟩
end
end Go.Proofs.YthmcpmnhdbeahaaGreat.D
namespace Go.Proofs.YthmcpmnhdbeahaaGreat.D
open Go Go.RowKit
theorem ZgD {P:Program} {g:FuncId} {k k' : IntKind} {F:Int→Option Int} (hc:Callable P g) (h:∀(x y:Int) (w:World),F x=some y→Calls P g #[.int k x] w fun e w' => e = .returned (.int k' y)∧w' = w) :
  Valid P g ⟨[.one (.v (.int k))],[.one (.v (.int k'))],Int,fun x=>F x.1,fun r=>((r,()),())⟩:=by
 refine⟨hc,fun x r hx Z B S w vs ha hS hZ hB => ?_⟩
 obtain⟨v,vs', F0,F1,rfl,h1,h2,_⟩:=ha
 cases h2
 have h1:[v]=[.int k x.1]:=h1
 cases h1
 refine(h x.1 r w hx).mono ?_
 rintro e w' ⟨rfl,rfl⟩
 refine⟨_,rfl,Z,fun _=>False,fun _=>False,⟨⟨_,[],fun _=>False,fun _=>False,rfl,trivial,trivial,fun _ h=>h,fun _ h=>h,fun _ h=>h.elim⟩,⟨[.int k' r],rfl,_,[],fun _=>False,fun _=>False,rfl,rfl,rfl,fun _ h=>h,fun _ h=>h,fun _ h=>h.elim⟩,fun _ h=>h.elim,fun _ h=>(h.elim id id:False).elim,fun _ h=>h,fun k hk=>⟨.inl hk,hZ k hk⟩,rfl,rfl,rfl,Nat.le_refl _,fun _ _ _=>rfl⟩⟩
end Go.Proofs.YthmcpmnhdbeahaaGreat.D
namespace Go.Proofs.YthmcpmnhdbeahaaGreat.R
open Go Go.RowKit Go.Proofs.YthmcpmnhdbeahaaGreat.D
noncomputable def bits_Len.f (a0:Int):Option Int:=if 0≤a0∧a0≤18446744073709551615 then some (Lib.bitLen a0.toNat:Int)else none
noncomputable def bits_Len.con:Con:=⟨[.one (.v (.int .u64))],[.one (.v (.int .i64))],Int,fun x=>bits_Len.f x.1,fun r=>((r,()),(()))⟩
theorem bits_Len.valid:Valid Tryz.prog 177 bits_Len.con:=ZgD ⟨_,Tryz.func177,by kernel_rfl,by kernel_rfl⟩ fun x y w h=>by
 unfold bits_Len.f at h
 split at h
 ·
  cases h
  exact P.Tryz.bits_Len x w (by omega) (by omega)
 ·
  cases h
end Go.Proofs.YthmcpmnhdbeahaaGreat.R
set_option maxRecDepth 100000
namespace Go.Proofs.YthmcpmnhdbeahaaGreat.R
open Go Go.RowKit Go.Proofs.YthmcpmnhdbeahaaGreat.D
noncomputable def Zg.E:Env:={ tt:=TT,con:=[],frz:=[],rows:=[],live:=[(1,[0,1,2,3,8]),(4,[0,1,2,3,8,9])],n:=53,pin:=1,nils:=[] }
noncomputable def Zg.fn:D.Fn:={ body:=Tryz.f275.body.getD .skip,res:=Tryz.f275.results.toList,ins:=[.one (.own 27 true .raw),.one (.v (.int .i64)),.one (.v (.int .i64)),.one (.fn [.raw,.raw] (.int .i64))],outs:=[] }
def Zg.enc (y:lsd (flats Zg.fn.outs)×lsd (ios Zg.fn.ins)):(List Value):=y.2.1
noncomputable def Zg.f (l0:List Value) (a1:Int) (a2:Int) (f3:Value→Value→Option Int):Option (List Value):=denF Zg.E Zg.fn Zg.enc (l0,a1,a2,fun x=>f3 x.1 x.2.1,())
noncomputable def Zg.l0 (x1:Int) (x2:Int) (fx3:Value→Value→Option Int) (x8:Int) (r0:List Value):Option (List Value):=denAt Zg.E Zg.fn Zg.enc [1,0] { fr:=[(0,.lf (.own 0)),(1,.lf (.int .i64 x1)),(2,.lf (.int .i64 x2)),(3,.lf (.fn [.raw,.raw] (.int .i64) (fun x=>fx3 x.1 x.2.1))),(8,.lf (.int .i64 x8))],ob:=[(0,.row 27 true .raw r0)],nx:=1 }
noncomputable def Zg.l1 (x1:Int) (x2:Int) (fx3:Value→Value→Option Int) (x8:Int) (x9:Int) (r0:List Value):Option (List Value):=denAt Zg.E Zg.fn Zg.enc [1,0,0,1,0,0,1,0] { fr:=[(0,.lf (.own 0)),(1,.lf (.int .i64 x1)),(2,.lf (.int .i64 x2)),(3,.lf (.fn [.raw,.raw] (.int .i64) (fun x=>fx3 x.1 x.2.1))),(8,.lf (.int .i64 x8)),(9,.lf (.int .i64 x9))],ob:=[(0,.row 27 true .raw r0)],nx:=1 }
theorem Zg.f_eq (l0:List Value) (a1:Int) (a2:Int) (f3:Value→Value→Option Int):Zg.f l0 a1 a2 f3=Zg.l0 a1 a2 f3 (wrapI (a1+1)) l0:=by kernel_rfl
theorem Zg.l0_eq (x1:Int) (x2:Int) (fx3:Value→Value→Option Int) (x8:Int) (r0:List Value):Zg.l0 x1 x2 fx3 x8 r0=if x8 < x2 then(Zg.l1 x1 x2 fx3 x8 x8 r0)else(some r0):=(Zv _ _ _ _).trans (by kernel_rfl)
theorem Zg.l1_eq (x1:Int) (x2:Int) (fx3:Value→Value→Option Int) (x8:Int) (x9:Int) (r0:List Value):Zg.l1 x1 x2 fx3 x8 x9 r0=if x9 > x1 then(if 0≤x9 then(if x9 < (r0.length:Int)then(if 0≤x9 then(if x9 < (r0.length:Int)then(if 0≤wrapI (x9 - 1)then(if wrapI (x9 - 1) < (r0.length:Int)then(if 0≤wrapI (x9 - 1)then(if wrapI (x9 - 1) < (r0.length:Int)then((fx3 (Ty.rd .raw r0 x9) (Ty.rd .raw r0 (wrapI (x9 - 1)))).bind fun t32=>if t32 < 0 then(if 0≤wrapI (x9 - 1)then(if wrapI (x9 - 1) < (r0.length:Int)then(if 0≤wrapI (x9 - 1)then(if wrapI (x9 - 1) < (r0.length:Int)then(if 0≤x9 then(if x9 < (r0.length:Int)then(if 0≤x9 then(if x9 < (r0.length:Int)then(if 0≤x9 then(if x9 < (r0.length:Int)then(if 0≤x9 then(if x9 < (r0.length:Int)then(if 0≤wrapI (x9 - 1)then(if wrapI (x9 - 1) < ((r0.set (x9:Int).toNat (Ty.rd .raw r0 (wrapI (x9 - 1)))).length:Int)then(if 0≤wrapI (x9 - 1)then(if wrapI (x9 - 1) < ((r0.set (x9:Int).toNat (Ty.rd .raw r0 (wrapI (x9 - 1)))).length:Int)then(Zg.l1 x1 x2 fx3 x8 (wrapI (x9 - 1)) ((r0.set (x9:Int).toNat (Ty.rd .raw r0 (wrapI (x9 - 1)))).set (wrapI (x9 - 1):Int).toNat (Ty.rd .raw r0 x9)))else none)else none)else none)else none)else none)else none)else none)else none)else none)else none)else none)else none)else none)else none)else none)else none)else(Zg.l0 x1 x2 fx3 (wrapI (x8+1)) r0))else none)else none)else none)else none)else none)else none)else none)else none)else(Zg.l0 x1 x2 fx3 (wrapI (x8+1)) r0):=(Zv _ _ _ _).trans (by kernel_rfl)
noncomputable def Zg.con:Con:=⟨Zg.fn.ins,Zg.fn.outs,(List Value),fun x=>Zg.f x.1 x.2.1 x.2.2.1 (fun z0 z1=>x.2.2.2.1 (z0,z1,())),fun r=>((()),(r,()))⟩
theorem Zg.valid:Valid Tryz.prog 275 Zg.con:=fnV Zg.fn Zg.E Zg.enc ⟨ttOk,Zaq⟩ Tryz.func275
end Go.Proofs.YthmcpmnhdbeahaaGreat.R
namespace Go.Proofs.YthmcpmnhdbeahaaGreat.R
open Go Go.RowKit Go.Proofs.YthmcpmnhdbeahaaGreat.D
noncomputable def Zu.E:Env:={ tt:=TT,con:=[],frz:=[],rows:=[],live:=[(1,[0,2,3,4,10])],n:=82,pin:=1,nils:=[] }
noncomputable def Zu.fn:D.Fn:={ body:=Tryz.f295.body.getD .skip,res:=Tryz.f295.results.toList,ins:=[.one (.own 27 true .raw),.one (.v (.int .i64)),.one (.v (.int .i64)),.one (.v (.int .i64)),.one (.fn [.raw,.raw] (.int .i64))],outs:=[] }
def Zu.enc (y:lsd (flats Zu.fn.outs)×lsd (ios Zu.fn.ins)):(List Value):=y.2.1
noncomputable def Zu.f (l0:List Value) (a1:Int) (a2:Int) (a3:Int) (f4:Value→Value→Option Int):Option (List Value):=denF Zu.E Zu.fn Zu.enc (l0,a1,a2,a3,fun x=>f4 x.1 x.2.1,())
noncomputable def Zu.l0 (x2:Int) (x3:Int) (fx4:Value→Value→Option Int) (x10:Int) (r0:List Value):Option (List Value):=denAt Zu.E Zu.fn Zu.enc [1,0] { fr:=[(0,.lf (.own 0)),(2,.lf (.int .i64 x2)),(3,.lf (.int .i64 x3)),(4,.lf (.fn [.raw,.raw] (.int .i64) (fun x=>fx4 x.1 x.2.1))),(10,.lf (.int .i64 x10))],ob:=[(0,.row 27 true .raw r0)],nx:=1 }
theorem Zu.f_eq (l0:List Value) (a1:Int) (a2:Int) (a3:Int) (f4:Value→Value→Option Int):Zu.f l0 a1 a2 a3 f4=Zu.l0 a2 a3 f4 a1 l0:=by kernel_rfl
theorem Zu.l0_eq (x2:Int) (x3:Int) (fx4:Value→Value→Option Int) (x10:Int) (r0:List Value):Zu.l0 x2 x3 fx4 x10 r0=if(wrapI ((wrapI (2*x10))+1))≥x2 then(some r0)else(if(wrapI ((wrapI ((wrapI (2*x10))+1))+1)) < x2 then(if 0≤wrapI (x3+(wrapI ((wrapI (2*x10))+1)))then(if wrapI (x3+(wrapI ((wrapI (2*x10))+1))) < (r0.length:Int)then(if 0≤wrapI (x3+(wrapI ((wrapI (2*x10))+1)))then(if wrapI (x3+(wrapI ((wrapI (2*x10))+1))) < (r0.length:Int)then(if 0≤wrapI ((wrapI (x3+(wrapI ((wrapI (2*x10))+1))))+1)then(if wrapI ((wrapI (x3+(wrapI ((wrapI (2*x10))+1))))+1) < (r0.length:Int)then(if 0≤wrapI ((wrapI (x3+(wrapI ((wrapI (2*x10))+1))))+1)then(if wrapI ((wrapI (x3+(wrapI ((wrapI (2*x10))+1))))+1) < (r0.length:Int)then((fx4 (Ty.rd .raw r0 (wrapI (x3+(wrapI ((wrapI (2*x10))+1))))) (Ty.rd .raw r0 (wrapI ((wrapI (x3+(wrapI ((wrapI (2*x10))+1))))+1)))).bind fun t38=>if t38 < 0 then(if 0≤wrapI (x3+x10)then(if wrapI (x3+x10) < (r0.length:Int)then(if 0≤wrapI (x3+x10)then(if wrapI (x3+x10) < (r0.length:Int)then(if 0≤wrapI (x3+(wrapI ((wrapI ((wrapI (2*x10))+1))+1)))then(if wrapI (x3+(wrapI ((wrapI ((wrapI (2*x10))+1))+1))) < (r0.length:Int)then(if 0≤wrapI (x3+(wrapI ((wrapI ((wrapI (2*x10))+1))+1)))then(if wrapI (x3+(wrapI ((wrapI ((wrapI (2*x10))+1))+1))) < (r0.length:Int)then((fx4 (Ty.rd .raw r0 (wrapI (x3+x10))) (Ty.rd .raw r0 (wrapI (x3+(wrapI ((wrapI ((wrapI (2*x10))+1))+1)))))).bind fun t56=>if t56 < 0 then(if 0≤wrapI (x3+(wrapI ((wrapI ((wrapI (2*x10))+1))+1)))then(if wrapI (x3+(wrapI ((wrapI ((wrapI (2*x10))+1))+1))) < (r0.length:Int)then(if 0≤wrapI (x3+(wrapI ((wrapI ((wrapI (2*x10))+1))+1)))then(if wrapI (x3+(wrapI ((wrapI ((wrapI (2*x10))+1))+1))) < (r0.length:Int)then(if 0≤wrapI (x3+x10)then(if wrapI (x3+x10) < (r0.length:Int)then(if 0≤wrapI (x3+x10)then(if wrapI (x3+x10) < (r0.length:Int)then(if 0≤wrapI (x3+x10)then(if wrapI (x3+x10) < (r0.length:Int)then(if 0≤wrapI (x3+x10)then(if wrapI (x3+x10) < (r0.length:Int)then(if 0≤wrapI (x3+(wrapI ((wrapI ((wrapI (2*x10))+1))+1)))then(if wrapI (x3+(wrapI ((wrapI ((wrapI (2*x10))+1))+1))) < ((r0.set (wrapI (x3+x10):Int).toNat (Ty.rd .raw r0 (wrapI (x3+(wrapI ((wrapI ((wrapI (2*x10))+1))+1)))))).length:Int)then(if 0≤wrapI (x3+(wrapI ((wrapI ((wrapI (2*x10))+1))+1)))then(if wrapI (x3+(wrapI ((wrapI ((wrapI (2*x10))+1))+1))) < ((r0.set (wrapI (x3+x10):Int).toNat (Ty.rd .raw r0 (wrapI (x3+(wrapI ((wrapI ((wrapI (2*x10))+1))+1)))))).length:Int)then(Zu.l0 x2 x3 fx4 (wrapI ((wrapI ((wrapI (2*x10))+1))+1)) ((r0.set (wrapI (x3+x10):Int).toNat (Ty.rd .raw r0 (wrapI (x3+(wrapI ((wrapI ((wrapI (2*x10))+1))+1)))))).set (wrapI (x3+(wrapI ((wrapI ((wrapI (2*x10))+1))+1))):Int).toNat (Ty.rd .raw r0 (wrapI (x3+x10)))))else none)else none)else none)else none)else none)else none)else none)else none)else none)else none)else none)else none)else none)else none)else none)else none)else(some r0))else none)else none)else none)else none)else none)else none)else none)else none)else(if 0≤wrapI (x3+x10)then(if wrapI (x3+x10) < (r0.length:Int)then(if 0≤wrapI (x3+x10)then(if wrapI (x3+x10) < (r0.length:Int)then(if 0≤wrapI (x3+(wrapI ((wrapI (2*x10))+1)))then(if wrapI (x3+(wrapI ((wrapI (2*x10))+1))) < (r0.length:Int)then(if 0≤wrapI (x3+(wrapI ((wrapI (2*x10))+1)))then(if wrapI (x3+(wrapI ((wrapI (2*x10))+1))) < (r0.length:Int)then((fx4 (Ty.rd .raw r0 (wrapI (x3+x10))) (Ty.rd .raw r0 (wrapI (x3+(wrapI ((wrapI (2*x10))+1)))))).bind fun t56=>if t56 < 0 then(if 0≤wrapI (x3+(wrapI ((wrapI (2*x10))+1)))then(if wrapI (x3+(wrapI ((wrapI (2*x10))+1))) < (r0.length:Int)then(if 0≤wrapI (x3+(wrapI ((wrapI (2*x10))+1)))then(if wrapI (x3+(wrapI ((wrapI (2*x10))+1))) < (r0.length:Int)then(if 0≤wrapI (x3+x10)then(if wrapI (x3+x10) < (r0.length:Int)then(if 0≤wrapI (x3+x10)then(if wrapI (x3+x10) < (r0.length:Int)then(if 0≤wrapI (x3+x10)then(if wrapI (x3+x10) < (r0.length:Int)then(if 0≤wrapI (x3+x10)then(if wrapI (x3+x10) < (r0.length:Int)then(if 0≤wrapI (x3+(wrapI ((wrapI (2*x10))+1)))then(if wrapI (x3+(wrapI ((wrapI (2*x10))+1))) < ((r0.set (wrapI (x3+x10):Int).toNat (Ty.rd .raw r0 (wrapI (x3+(wrapI ((wrapI (2*x10))+1)))))).length:Int)then(if 0≤wrapI (x3+(wrapI ((wrapI (2*x10))+1)))then(if wrapI (x3+(wrapI ((wrapI (2*x10))+1))) < ((r0.set (wrapI (x3+x10):Int).toNat (Ty.rd .raw r0 (wrapI (x3+(wrapI ((wrapI (2*x10))+1)))))).length:Int)then(Zu.l0 x2 x3 fx4 (wrapI ((wrapI (2*x10))+1)) ((r0.set (wrapI (x3+x10):Int).toNat (Ty.rd .raw r0 (wrapI (x3+(wrapI ((wrapI (2*x10))+1)))))).set (wrapI (x3+(wrapI ((wrapI (2*x10))+1))):Int).toNat (Ty.rd .raw r0 (wrapI (x3+x10)))))else none)else none)else none)else none)else none)else none)else none)else none)else none)else none)else none)else none)else none)else none)else none)else none)else(some r0))else none)else none)else none)else none)else none)else none)else none)else none))else none)else none)else none)else none)else none)else none)else none)else none)else(if 0≤wrapI (x3+x10)then(if wrapI (x3+x10) < (r0.length:Int)then(if 0≤wrapI (x3+x10)then(if wrapI (x3+x10) < (r0.length:Int)then(if 0≤wrapI (x3+(wrapI ((wrapI (2*x10))+1)))then(if wrapI (x3+(wrapI ((wrapI (2*x10))+1))) < (r0.length:Int)then(if 0≤wrapI (x3+(wrapI ((wrapI (2*x10))+1)))then(if wrapI (x3+(wrapI ((wrapI (2*x10))+1))) < (r0.length:Int)then((fx4 (Ty.rd .raw r0 (wrapI (x3+x10))) (Ty.rd .raw r0 (wrapI (x3+(wrapI ((wrapI (2*x10))+1)))))).bind fun t56=>if t56 < 0 then(if 0≤wrapI (x3+(wrapI ((wrapI (2*x10))+1)))then(if wrapI (x3+(wrapI ((wrapI (2*x10))+1))) < (r0.length:Int)then(if 0≤wrapI (x3+(wrapI ((wrapI (2*x10))+1)))then(if wrapI (x3+(wrapI ((wrapI (2*x10))+1))) < (r0.length:Int)then(if 0≤wrapI (x3+x10)then(if wrapI (x3+x10) < (r0.length:Int)then(if 0≤wrapI (x3+x10)then(if wrapI (x3+x10) < (r0.length:Int)then(if 0≤wrapI (x3+x10)then(if wrapI (x3+x10) < (r0.length:Int)then(if 0≤wrapI (x3+x10)then(if wrapI (x3+x10) < (r0.length:Int)then(if 0≤wrapI (x3+(wrapI ((wrapI (2*x10))+1)))then(if wrapI (x3+(wrapI ((wrapI (2*x10))+1))) < ((r0.set (wrapI (x3+x10):Int).toNat (Ty.rd .raw r0 (wrapI (x3+(wrapI ((wrapI (2*x10))+1)))))).length:Int)then(if 0≤wrapI (x3+(wrapI ((wrapI (2*x10))+1)))then(if wrapI (x3+(wrapI ((wrapI (2*x10))+1))) < ((r0.set (wrapI (x3+x10):Int).toNat (Ty.rd .raw r0 (wrapI (x3+(wrapI ((wrapI (2*x10))+1)))))).length:Int)then(Zu.l0 x2 x3 fx4 (wrapI ((wrapI (2*x10))+1)) ((r0.set (wrapI (x3+x10):Int).toNat (Ty.rd .raw r0 (wrapI (x3+(wrapI ((wrapI (2*x10))+1)))))).set (wrapI (x3+(wrapI ((wrapI (2*x10))+1))):Int).toNat (Ty.rd .raw r0 (wrapI (x3+x10)))))else none)else none)else none)else none)else none)else none)else none)else none)else none)else none)else none)else none)else none)else none)else none)else none)else(some r0))else none)else none)else none)else none)else none)else none)else none)else none)):=(Zv _ _ _ _).trans (by kernel_rfl)
noncomputable def Zu.con:Con:=⟨Zu.fn.ins,Zu.fn.outs,(List Value),fun x=>Zu.f x.1 x.2.1 x.2.2.1 x.2.2.2.1 (fun z0 z1=>x.2.2.2.2.1 (z0,z1,())),fun r=>((()),(r,()))⟩
theorem Zu.valid:Valid Tryz.prog 295 Zu.con:=fnV Zu.fn Zu.E Zu.enc ⟨ttOk,Zaq⟩ Tryz.func295
end Go.Proofs.YthmcpmnhdbeahaaGreat.R
namespace Go.Proofs.YthmcpmnhdbeahaaGreat.R
open Go Go.RowKit Go.Proofs.YthmcpmnhdbeahaaGreat.D
noncomputable def Zm.E:Env:={ tt:=TT,con:=[(295,Zu.con)],frz:=[],rows:=[],live:=[(4,[0,3,8,9,10,11]),(8,[0,3,8,9,12])],n:=60,pin:=1,nils:=[] }
noncomputable def Zm.fn:D.Fn:={ body:=Tryz.f276.body.getD .skip,res:=Tryz.f276.results.toList,ins:=[.one (.own 27 true .raw),.one (.v (.int .i64)),.one (.v (.int .i64)),.one (.fn [.raw,.raw] (.int .i64))],outs:=[] }
def Zm.enc (y:lsd (flats Zm.fn.outs)×lsd (ios Zm.fn.ins)):(List Value):=y.2.1
noncomputable def Zm.f (l0:List Value) (a1:Int) (a2:Int) (f3:Value→Value→Option Int):Option (List Value):=denF Zm.E Zm.fn Zm.enc (l0,a1,a2,fun x=>f3 x.1 x.2.1,())
noncomputable def Zm.l0 (fx3:Value→Value→Option Int) (x8:Int) (x9:Int) (x10:Int) (x11:Int) (r0:List Value):Option (List Value):=denAt Zm.E Zm.fn Zm.enc [1,1,1,0,1,0] { fr:=[(0,.lf (.own 0)),(3,.lf (.fn [.raw,.raw] (.int .i64) (fun x=>fx3 x.1 x.2.1))),(8,.lf (.int .i64 x8)),(9,.lf (.int .i64 x9)),(10,.lf (.int .i64 x10)),(11,.lf (.int .i64 x11))],ob:=[(0,.row 27 true .raw r0)],nx:=1 }
noncomputable def Zm.l1 (fx3:Value→Value→Option Int) (x8:Int) (x9:Int) (x12:Int) (r0:List Value):Option (List Value):=denAt Zm.E Zm.fn Zm.enc [1,1,1,1,1,0] { fr:=[(0,.lf (.own 0)),(3,.lf (.fn [.raw,.raw] (.int .i64) (fun x=>fx3 x.1 x.2.1))),(8,.lf (.int .i64 x8)),(9,.lf (.int .i64 x9)),(12,.lf (.int .i64 x12))],ob:=[(0,.row 27 true .raw r0)],nx:=1 }
theorem Zm.f_eq (l0:List Value) (a1:Int) (a2:Int) (f3:Value→Value→Option Int):Zm.f l0 a1 a2 f3=Zm.l0 f3 a1 0 (wrapI (a2 - a1)) (wrapI ((wrapI ((wrapI (a2 - a1)) - 1):Int).tdiv 2)) l0:=by kernel_rfl
theorem Zm.l0_eq (fx3:Value→Value→Option Int) (x8:Int) (x9:Int) (x10:Int) (x11:Int) (r0:List Value):Zm.l0 fx3 x8 x9 x10 x11 r0=if x11≥0 then((Zu.f r0 x11 x10 x8 (fun z0 z1=>(fx3 z0 z1).map fun z=>z)).bind fun t29=>Zm.l0 fx3 x8 x9 x10 (wrapI (x11 - 1)) t29)else(Zm.l1 fx3 x8 x9 (wrapI (x10 - 1)) r0):=(Zv _ _ _ _).trans (by kernel_rfl)
theorem Zm.l1_eq (fx3:Value→Value→Option Int) (x8:Int) (x9:Int) (x12:Int) (r0:List Value):Zm.l1 fx3 x8 x9 x12 r0=if x12≥0 then(if 0≤wrapI (x8+x12)then(if wrapI (x8+x12) < (r0.length:Int)then(if 0≤wrapI (x8+x12)then(if wrapI (x8+x12) < (r0.length:Int)then(if 0≤x8 then(if x8 < (r0.length:Int)then(if 0≤x8 then(if x8 < (r0.length:Int)then(if 0≤x8 then(if x8 < (r0.length:Int)then(if 0≤x8 then(if x8 < (r0.length:Int)then(if 0≤wrapI (x8+x12)then(if wrapI (x8+x12) < ((r0.set (x8:Int).toNat (Ty.rd .raw r0 (wrapI (x8+x12)))).length:Int)then(if 0≤wrapI (x8+x12)then(if wrapI (x8+x12) < ((r0.set (x8:Int).toNat (Ty.rd .raw r0 (wrapI (x8+x12)))).length:Int)then((Zu.f ((r0.set (x8:Int).toNat (Ty.rd .raw r0 (wrapI (x8+x12)))).set (wrapI (x8+x12):Int).toNat (Ty.rd .raw r0 x8)) x9 x12 x8 (fun z0 z1=>(fx3 z0 z1).map fun z=>z)).bind fun t59=>Zm.l1 fx3 x8 x9 (wrapI (x12 - 1)) t59)else none)else none)else none)else none)else none)else none)else none)else none)else none)else none)else none)else none)else none)else none)else none)else none)else(some r0):=(Zv _ _ _ _).trans (by kernel_rfl)
noncomputable def Zm.con:Con:=⟨Zm.fn.ins,Zm.fn.outs,(List Value),fun x=>Zm.f x.1 x.2.1 x.2.2.1 (fun z0 z1=>x.2.2.2.1 (z0,z1,())),fun r=>((()),(r,()))⟩
theorem Zm.valid:Valid Tryz.prog 276 Zm.con:=fnV Zm.fn Zm.E Zm.enc ⟨ttOk,(Zs Zu.valid Zaq)⟩ Tryz.func276
end Go.Proofs.YthmcpmnhdbeahaaGreat.R
namespace Go.Proofs.YthmcpmnhdbeahaaGreat.R
open Go Go.RowKit Go.Proofs.YthmcpmnhdbeahaaGreat.D
noncomputable def Zar.E:Env:={ tt:=TT,con:=[(177,bits_Len.con)],frz:=[],rows:=[],live:=[],n:=7,pin:=0,nils:=[] }
noncomputable def Zar.fn:D.Fn:={ body:=Tryz.f270.body.getD .skip,res:=Tryz.f270.results.toList,ins:=[.one (.v (.int .i64))],outs:=[.one (.v (.int .u64))] }
def Zar.enc (y:lsd (flats Zar.fn.outs)×lsd (ios Zar.fn.ins)):Int:=y.1.1
noncomputable def Zar.f (a0:Int):Option Int:=denF Zar.E Zar.fn Zar.enc (a0,())
theorem Zar.f_eq (a0:Int):Zar.f a0=(bits_Len.f (wr .u64 a0)).bind fun t5=>if t5 < 0 then none else(some (shlI .u64 1 t5)):=by kernel_rfl
noncomputable def Zar.con:Con:=⟨Zar.fn.ins,Zar.fn.outs,Int,fun x=>Zar.f x.1,fun r=>((r,()),(()))⟩
theorem Zar.valid:Valid Tryz.prog 270 Zar.con:=fnV Zar.fn Zar.E Zar.enc ⟨ttOk,(Zs bits_Len.valid Zaq)⟩ Tryz.func270
end Go.Proofs.YthmcpmnhdbeahaaGreat.R
namespace Go.Proofs.YthmcpmnhdbeahaaGreat.R
open Go Go.RowKit Go.Proofs.YthmcpmnhdbeahaaGreat.D
noncomputable def Zay.E:Env:={ tt:=TT,con:=[],frz:=[],rows:=[],live:=[],n:=33,pin:=1,nils:=[] }
noncomputable def Zay.fn:D.Fn:={ body:=Tryz.f271.body.getD .skip,res:=Tryz.f271.results.toList,ins:=[.ptr false 207 [.v (.int .u64)]],outs:=[.one (.v (.int .u64))] }
def Zay.enc (y:lsd (flats Zay.fn.outs)×lsd (ios Zay.fn.ins)):Int×Int:=(y.1.1,y.2.1)
noncomputable def Zay.f (a0:Int):Option (Int×Int):=denF Zay.E Zay.fn Zay.enc (a0,())
theorem Zay.f_eq (a0:Int):Zay.f a0=some (xorI .u64 (xorI .u64 (xorI .u64 a0 (shlI .u64 a0 13)) (shrI .u64 (xorI .u64 a0 (shlI .u64 a0 13)) 7)) (shlI .u64 (xorI .u64 (xorI .u64 a0 (shlI .u64 a0 13)) (shrI .u64 (xorI .u64 a0 (shlI .u64 a0 13)) 7)) 17),xorI .u64 (xorI .u64 (xorI .u64 a0 (shlI .u64 a0 13)) (shrI .u64 (xorI .u64 a0 (shlI .u64 a0 13)) 7)) (shlI .u64 (xorI .u64 (xorI .u64 a0 (shlI .u64 a0 13)) (shrI .u64 (xorI .u64 a0 (shlI .u64 a0 13)) 7)) 17)):=by kernel_rfl
noncomputable def Zay.con:Con:=⟨Zay.fn.ins,Zay.fn.outs,Int×Int,fun x=>Zay.f x.1,fun r=>((r.1,()),(r.2,()))⟩
theorem Zay.valid:Valid Tryz.prog 271 Zay.con:=fnV Zay.fn Zay.E Zay.enc ⟨ttOk,Zaq⟩ Tryz.func271
end Go.Proofs.YthmcpmnhdbeahaaGreat.R
namespace Go.Proofs.YthmcpmnhdbeahaaGreat.R
open Go Go.RowKit Go.Proofs.YthmcpmnhdbeahaaGreat.D
noncomputable def Zo.E:Env:={ tt:=TT,con:=[(270,Zar.con),(271,Zay.con)],frz:=[],rows:=[],live:=[(5,[0,1,8,9,10,11])],n:=67,pin:=1,nils:=[] }
noncomputable def Zo.fn:D.Fn:={ body:=Tryz.f277.body.getD .skip,res:=Tryz.f277.results.toList,ins:=[.one (.own 27 true .raw),.one (.v (.int .i64)),.one (.v (.int .i64)),.one (.fn [.raw,.raw] (.int .i64))],outs:=[] }
def Zo.enc (y:lsd (flats Zo.fn.outs)×lsd (ios Zo.fn.ins)):(List Value):=y.2.1
noncomputable def Zo.f (l0:List Value) (a1:Int) (a2:Int) (f3:Value→Value→Option Int):Option (List Value):=denF Zo.E Zo.fn Zo.enc (l0,a1,a2,fun x=>f3 x.1 x.2.1,())
noncomputable def Zo.l0 (x1:Int) (x8:Int) (x10:Int) (x11:Int) (r0:List Value) (b1_0:Int):Option (List Value):=denAt Zo.E Zo.fn Zo.enc [1,1,0,1,1,1,0] { fr:=[(0,.lf (.own 0)),(1,.lf (.int .i64 x1)),(8,.lf (.int .i64 x8)),(9,.lf (.box 1 0)),(10,.lf (.int .u64 x10)),(11,.lf (.int .i64 x11))],ob:=[(0,.row 27 true .raw r0),(1,.box 207 false [.int .u64 b1_0])],nx:=2 }
theorem Zo.f_eq (l0:List Value) (a1:Int) (a2:Int) (f3:Value→Value→Option Int):Zo.f l0 a1 a2 f3=if(wrapI (a2 - a1))≥8 then((Zar.f (wrapI (a2 - a1))).bind fun t21=>Zo.l0 a1 (wrapI (a2 - a1)) t21 (wrapI ((wrapI (a1+(wrapI ((wrapI ((wrapI (a2 - a1):Int).tdiv 4))*2)))) - 1)) l0 (wr .u64 (wrapI (a2 - a1))))else(some l0):=by kernel_rfl
theorem Zo.l0_eq (x1:Int) (x8:Int) (x10:Int) (x11:Int) (r0:List Value) (b1_0:Int):Zo.l0 x1 x8 x10 x11 r0 b1_0=if x11≤(wrapI ((wrapI (x1+(wrapI ((wrapI ((x8:Int).tdiv 4))*2))))+1))then((Zay.f b1_0).bind fun t38=>if(wrapI (andI .u64 t38.1 (wr .u64 (x10 - 1))))≥x8 then(if 0≤wrapI (x1+(wrapI ((wrapI (andI .u64 t38.1 (wr .u64 (x10 - 1)))) - x8)))then(if wrapI (x1+(wrapI ((wrapI (andI .u64 t38.1 (wr .u64 (x10 - 1)))) - x8))) < (r0.length:Int)then(if 0≤wrapI (x1+(wrapI ((wrapI (andI .u64 t38.1 (wr .u64 (x10 - 1)))) - x8)))then(if wrapI (x1+(wrapI ((wrapI (andI .u64 t38.1 (wr .u64 (x10 - 1)))) - x8))) < (r0.length:Int)then(if 0≤x11 then(if x11 < (r0.length:Int)then(if 0≤x11 then(if x11 < (r0.length:Int)then(if 0≤x11 then(if x11 < (r0.length:Int)then(if 0≤x11 then(if x11 < (r0.length:Int)then(if 0≤wrapI (x1+(wrapI ((wrapI (andI .u64 t38.1 (wr .u64 (x10 - 1)))) - x8)))then(if wrapI (x1+(wrapI ((wrapI (andI .u64 t38.1 (wr .u64 (x10 - 1)))) - x8))) < ((r0.set (x11:Int).toNat (Ty.rd .raw r0 (wrapI (x1+(wrapI ((wrapI (andI .u64 t38.1 (wr .u64 (x10 - 1)))) - x8)))))).length:Int)then(if 0≤wrapI (x1+(wrapI ((wrapI (andI .u64 t38.1 (wr .u64 (x10 - 1)))) - x8)))then(if wrapI (x1+(wrapI ((wrapI (andI .u64 t38.1 (wr .u64 (x10 - 1)))) - x8))) < ((r0.set (x11:Int).toNat (Ty.rd .raw r0 (wrapI (x1+(wrapI ((wrapI (andI .u64 t38.1 (wr .u64 (x10 - 1)))) - x8)))))).length:Int)then(Zo.l0 x1 x8 x10 (wrapI (x11+1)) ((r0.set (x11:Int).toNat (Ty.rd .raw r0 (wrapI (x1+(wrapI ((wrapI (andI .u64 t38.1 (wr .u64 (x10 - 1)))) - x8)))))).set (wrapI (x1+(wrapI ((wrapI (andI .u64 t38.1 (wr .u64 (x10 - 1)))) - x8))):Int).toNat (Ty.rd .raw r0 x11)) t38.2)else none)else none)else none)else none)else none)else none)else none)else none)else none)else none)else none)else none)else none)else none)else none)else none)else(if 0≤wrapI (x1+(wrapI (andI .u64 t38.1 (wr .u64 (x10 - 1)))))then(if wrapI (x1+(wrapI (andI .u64 t38.1 (wr .u64 (x10 - 1))))) < (r0.length:Int)then(if 0≤wrapI (x1+(wrapI (andI .u64 t38.1 (wr .u64 (x10 - 1)))))then(if wrapI (x1+(wrapI (andI .u64 t38.1 (wr .u64 (x10 - 1))))) < (r0.length:Int)then(if 0≤x11 then(if x11 < (r0.length:Int)then(if 0≤x11 then(if x11 < (r0.length:Int)then(if 0≤x11 then(if x11 < (r0.length:Int)then(if 0≤x11 then(if x11 < (r0.length:Int)then(if 0≤wrapI (x1+(wrapI (andI .u64 t38.1 (wr .u64 (x10 - 1)))))then(if wrapI (x1+(wrapI (andI .u64 t38.1 (wr .u64 (x10 - 1))))) < ((r0.set (x11:Int).toNat (Ty.rd .raw r0 (wrapI (x1+(wrapI (andI .u64 t38.1 (wr .u64 (x10 - 1)))))))).length:Int)then(if 0≤wrapI (x1+(wrapI (andI .u64 t38.1 (wr .u64 (x10 - 1)))))then(if wrapI (x1+(wrapI (andI .u64 t38.1 (wr .u64 (x10 - 1))))) < ((r0.set (x11:Int).toNat (Ty.rd .raw r0 (wrapI (x1+(wrapI (andI .u64 t38.1 (wr .u64 (x10 - 1)))))))).length:Int)then(Zo.l0 x1 x8 x10 (wrapI (x11+1)) ((r0.set (x11:Int).toNat (Ty.rd .raw r0 (wrapI (x1+(wrapI (andI .u64 t38.1 (wr .u64 (x10 - 1)))))))).set (wrapI (x1+(wrapI (andI .u64 t38.1 (wr .u64 (x10 - 1))))):Int).toNat (Ty.rd .raw r0 x11)) t38.2)else none)else none)else none)else none)else none)else none)else none)else none)else none)else none)else none)else none)else none)else none)else none)else none))else(some r0):=(Zv _ _ _ _).trans (by kernel_rfl)
noncomputable def Zo.con:Con:=⟨Zo.fn.ins,Zo.fn.outs,(List Value),fun x=>Zo.f x.1 x.2.1 x.2.2.1 (fun z0 z1=>x.2.2.2.1 (z0,z1,())),fun r=>((()),(r,()))⟩
theorem Zo.valid:Valid Tryz.prog 277 Zo.con:=fnV Zo.fn Zo.E Zo.enc ⟨ttOk,(Zs Zar.valid (Zs Zay.valid Zaq))⟩ Tryz.func277
end Go.Proofs.YthmcpmnhdbeahaaGreat.R
namespace Go.Proofs.YthmcpmnhdbeahaaGreat.R
open Go Go.RowKit Go.Proofs.YthmcpmnhdbeahaaGreat.D
noncomputable def ZR.E:Env:={ tt:=TT,con:=[],frz:=[],rows:=[],live:=[],n:=32,pin:=1,nils:=[] }
noncomputable def ZR.fn:D.Fn:={ body:=Tryz.f299.body.getD .skip,res:=Tryz.f299.results.toList,ins:=[.one (.v (.sl 27 .raw)),.one (.v (.int .i64)),.one (.v (.int .i64)),.ptr false 3 [.v (.int .i64)],.one (.fn [.raw,.raw] (.int .i64))],outs:=[.one (.v (.int .i64)),.one (.v (.int .i64))] }
def ZR.enc (y:lsd (flats ZR.fn.outs)×lsd (ios ZR.fn.ins)):Int×Int×Int:=(y.1.1,y.1.2.1,y.2.1)
noncomputable def ZR.f (l0:List Value) (a1:Int) (a2:Int) (a3:Int) (f4:Value→Value→Option Int):Option (Int×Int×Int):=denF ZR.E ZR.fn ZR.enc (l0,a1,a2,a3,fun x=>f4 x.1 x.2.1,())
theorem ZR.f_eq (l0:List Value) (a1:Int) (a2:Int) (a3:Int) (f4:Value→Value→Option Int):ZR.f l0 a1 a2 a3 f4=if 0≤a2 then(if a2 < (l0.length:Int)then(if 0≤a1 then(if a1 < (l0.length:Int)then((f4 (Ty.rd .raw l0 a2) (Ty.rd .raw l0 a1)).bind fun t21=>if t21 < 0 then(some (a2,a1,wrapI (a3+1)))else(some (a1,a2,a3)))else none)else none)else none)else none:=by kernel_rfl
noncomputable def ZR.con:Con:=⟨ZR.fn.ins,ZR.fn.outs,Int×Int×Int,fun x=>ZR.f x.1 x.2.1 x.2.2.1 x.2.2.2.1 (fun z0 z1=>x.2.2.2.2.1 (z0,z1,())),fun r=>((r.1,r.2.1,()),(r.2.2,()))⟩
theorem ZR.valid:Valid Tryz.prog 299 ZR.con:=fnV ZR.fn ZR.E ZR.enc ⟨ttOk,Zaq⟩ Tryz.func299
end Go.Proofs.YthmcpmnhdbeahaaGreat.R
namespace Go.Proofs.YthmcpmnhdbeahaaGreat.R
open Go Go.RowKit Go.Proofs.YthmcpmnhdbeahaaGreat.D
noncomputable def ZK.E:Env:={ tt:=TT,con:=[(299,ZR.con)],frz:=[],rows:=[],live:=[],n:=41,pin:=1,nils:=[] }
noncomputable def ZK.fn:D.Fn:={ body:=Tryz.f297.body.getD .skip,res:=Tryz.f297.results.toList,ins:=[.one (.v (.sl 27 .raw)),.one (.v (.int .i64)),.one (.v (.int .i64)),.one (.v (.int .i64)),.ptr false 3 [.v (.int .i64)],.one (.fn [.raw,.raw] (.int .i64))],outs:=[.one (.v (.int .i64))] }
def ZK.enc (y:lsd (flats ZK.fn.outs)×lsd (ios ZK.fn.ins)):Int×Int:=(y.1.1,y.2.1)
noncomputable def ZK.f (l0:List Value) (a1:Int) (a2:Int) (a3:Int) (a4:Int) (f5:Value→Value→Option Int):Option (Int×Int):=denF ZK.E ZK.fn ZK.enc (l0,a1,a2,a3,a4,fun x=>f5 x.1 x.2.1,())
theorem ZK.f_eq (l0:List Value) (a1:Int) (a2:Int) (a3:Int) (a4:Int) (f5:Value→Value→Option Int):ZK.f l0 a1 a2 a3 a4 f5=(ZR.f l0 a1 a2 a4 (fun z0 z1=>(f5 z0 z1).map fun z=>z)).bind fun t19=>(ZR.f l0 t19.2.1 a3 t19.2.2 (fun z0 z1=>(f5 z0 z1).map fun z=>z)).bind fun t28=>(ZR.f l0 t19.1 t28.1 t28.2.2 (fun z0 z1=>(f5 z0 z1).map fun z=>z)).bind fun t37=>some (t37.2.1,t37.2.2):=by kernel_rfl
noncomputable def ZK.con:Con:=⟨ZK.fn.ins,ZK.fn.outs,Int×Int,fun x=>ZK.f x.1 x.2.1 x.2.2.1 x.2.2.2.1 x.2.2.2.2.1 (fun z0 z1=>x.2.2.2.2.2.1 (z0,z1,())),fun r=>((r.1,()),(r.2,()))⟩
theorem ZK.valid:Valid Tryz.prog 297 ZK.con:=fnV ZK.fn ZK.E ZK.enc ⟨ttOk,(Zs ZR.valid Zaq)⟩ Tryz.func297
end Go.Proofs.YthmcpmnhdbeahaaGreat.R
namespace Go.Proofs.YthmcpmnhdbeahaaGreat.R
open Go Go.RowKit Go.Proofs.YthmcpmnhdbeahaaGreat.D
noncomputable def Zz.E:Env:={ tt:=TT,con:=[(297,ZK.con)],frz:=[],rows:=[],live:=[],n:=18,pin:=1,nils:=[] }
noncomputable def Zz.fn:D.Fn:={ body:=Tryz.f296.body.getD .skip,res:=Tryz.f296.results.toList,ins:=[.one (.v (.sl 27 .raw)),.one (.v (.int .i64)),.ptr false 3 [.v (.int .i64)],.one (.fn [.raw,.raw] (.int .i64))],outs:=[.one (.v (.int .i64))] }
def Zz.enc (y:lsd (flats Zz.fn.outs)×lsd (ios Zz.fn.ins)):Int×Int:=(y.1.1,y.2.1)
noncomputable def Zz.f (l0:List Value) (a1:Int) (a2:Int) (f3:Value→Value→Option Int):Option (Int×Int):=denF Zz.E Zz.fn Zz.enc (l0,a1,a2,fun x=>f3 x.1 x.2.1,())
theorem Zz.f_eq (l0:List Value) (a1:Int) (a2:Int) (f3:Value→Value→Option Int):Zz.f l0 a1 a2 f3=(ZK.f l0 (wrapI (a1 - 1)) a1 (wrapI (a1+1)) a2 (fun z0 z1=>(f3 z0 z1).map fun z=>z)).bind fun t17=>some (t17.1,t17.2):=by kernel_rfl
noncomputable def Zz.con:Con:=⟨Zz.fn.ins,Zz.fn.outs,Int×Int,fun x=>Zz.f x.1 x.2.1 x.2.2.1 (fun z0 z1=>x.2.2.2.1 (z0,z1,())),fun r=>((r.1,()),(r.2,()))⟩
theorem Zz.valid:Valid Tryz.prog 296 Zz.con:=fnV Zz.fn Zz.E Zz.enc ⟨ttOk,(Zs ZK.valid Zaq)⟩ Tryz.func296
end Go.Proofs.YthmcpmnhdbeahaaGreat.R
namespace Go.Proofs.YthmcpmnhdbeahaaGreat.R
open Go Go.RowKit Go.Proofs.YthmcpmnhdbeahaaGreat.D
noncomputable def ZF.E:Env:={ tt:=TT,con:=[(296,Zz.con),(297,ZK.con)],frz:=[],rows:=[],live:=[],n:=63,pin:=0,nils:=[] }
noncomputable def ZF.fn:D.Fn:={ body:=Tryz.f278.body.getD .skip,res:=Tryz.f278.results.toList,ins:=[.one (.v (.sl 27 .raw)),.one (.v (.int .i64)),.one (.v (.int .i64)),.one (.fn [.raw,.raw] (.int .i64))],outs:=[.one (.v (.int .i64)),.one (.v (.int .i64))] }
def ZF.enc (y:lsd (flats ZF.fn.outs)×lsd (ios ZF.fn.ins)):Int×Int:=(y.1.1,y.1.2.1)
noncomputable def ZF.f (l0:List Value) (a1:Int) (a2:Int) (f3:Value→Value→Option Int):Option (Int×Int):=denF ZF.E ZF.fn ZF.enc (l0,a1,a2,fun x=>f3 x.1 x.2.1,())
theorem ZF.f_eq (l0:List Value) (a1:Int) (a2:Int) (f3:Value→Value→Option Int):ZF.f l0 a1 a2 f3=if(wrapI (a2 - a1))≥8 then(if(wrapI (a2 - a1))≥50 then((Zz.f l0 (wrapI (a1+(wrapI ((wrapI ((wrapI (a2 - a1):Int).tdiv 4))*1)))) 0 (fun z0 z1=>(f3 z0 z1).map fun z=>z)).bind fun t40=>(Zz.f l0 (wrapI (a1+(wrapI ((wrapI ((wrapI (a2 - a1):Int).tdiv 4))*2)))) t40.2 (fun z0 z1=>(f3 z0 z1).map fun z=>z)).bind fun t44=>(Zz.f l0 (wrapI (a1+(wrapI ((wrapI ((wrapI (a2 - a1):Int).tdiv 4))*3)))) t44.2 (fun z0 z1=>(f3 z0 z1).map fun z=>z)).bind fun t48=>(ZK.f l0 t40.1 t44.1 t48.1 t48.2 (fun z0 z1=>(f3 z0 z1).map fun z=>z)).bind fun t54=>if t54.2=0 then(some (t54.1,1))else(if t54.2=12 then(some (t54.1,2))else(some (t54.1,0))))else((ZK.f l0 (wrapI (a1+(wrapI ((wrapI ((wrapI (a2 - a1):Int).tdiv 4))*1)))) (wrapI (a1+(wrapI ((wrapI ((wrapI (a2 - a1):Int).tdiv 4))*2)))) (wrapI (a1+(wrapI ((wrapI ((wrapI (a2 - a1):Int).tdiv 4))*3)))) 0 (fun z0 z1=>(f3 z0 z1).map fun z=>z)).bind fun t54=>if t54.2=0 then(some (t54.1,1))else(if t54.2=12 then(some (t54.1,2))else(some (t54.1,0)))))else(some (wrapI (a1+(wrapI ((wrapI ((wrapI (a2 - a1):Int).tdiv 4))*2))),1)):=by kernel_rfl
noncomputable def ZF.con:Con:=⟨ZF.fn.ins,ZF.fn.outs,Int×Int,fun x=>ZF.f x.1 x.2.1 x.2.2.1 (fun z0 z1=>x.2.2.2.1 (z0,z1,())),fun r=>((r.1,r.2,()),(()))⟩
theorem ZF.valid:Valid Tryz.prog 278 ZF.con:=fnV ZF.fn ZF.E ZF.enc ⟨ttOk,(Zs Zz.valid (Zs ZK.valid Zaq))⟩ Tryz.func278
end Go.Proofs.YthmcpmnhdbeahaaGreat.R
namespace Go.Proofs.YthmcpmnhdbeahaaGreat.R
open Go Go.RowKit Go.Proofs.YthmcpmnhdbeahaaGreat.D
noncomputable def Zr.E:Env:={ tt:=TT,con:=[],frz:=[],rows:=[],live:=[(2,[0,8,9])],n:=34,pin:=1,nils:=[] }
noncomputable def Zr.fn:D.Fn:={ body:=Tryz.f279.body.getD .skip,res:=Tryz.f279.results.toList,ins:=[.one (.own 27 true .raw),.one (.v (.int .i64)),.one (.v (.int .i64)),.one (.fn [.raw,.raw] (.int .i64))],outs:=[] }
def Zr.enc (y:lsd (flats Zr.fn.outs)×lsd (ios Zr.fn.ins)):(List Value):=y.2.1
noncomputable def Zr.f (l0:List Value) (a1:Int) (a2:Int) (f3:Value→Value→Option Int):Option (List Value):=denF Zr.E Zr.fn Zr.enc (l0,a1,a2,fun x=>f3 x.1 x.2.1,())
noncomputable def Zr.l0 (x8:Int) (x9:Int) (r0:List Value):Option (List Value):=denAt Zr.E Zr.fn Zr.enc [1,1,0] { fr:=[(0,.lf (.own 0)),(8,.lf (.int .i64 x8)),(9,.lf (.int .i64 x9))],ob:=[(0,.row 27 true .raw r0)],nx:=1 }
theorem Zr.f_eq (l0:List Value) (a1:Int) (a2:Int) (f3:Value→Value→Option Int):Zr.f l0 a1 a2 f3=Zr.l0 a1 (wrapI (a2 - 1)) l0:=by kernel_rfl
theorem Zr.l0_eq (x8:Int) (x9:Int) (r0:List Value):Zr.l0 x8 x9 r0=if x8 < x9 then(if 0≤x9 then(if x9 < (r0.length:Int)then(if 0≤x9 then(if x9 < (r0.length:Int)then(if 0≤x8 then(if x8 < (r0.length:Int)then(if 0≤x8 then(if x8 < (r0.length:Int)then(if 0≤x8 then(if x8 < (r0.length:Int)then(if 0≤x8 then(if x8 < (r0.length:Int)then(if 0≤x9 then(if x9 < ((r0.set (x8:Int).toNat (Ty.rd .raw r0 x9)).length:Int)then(if 0≤x9 then(if x9 < ((r0.set (x8:Int).toNat (Ty.rd .raw r0 x9)).length:Int)then(Zr.l0 (wrapI (x8+1)) (wrapI (x9 - 1)) ((r0.set (x8:Int).toNat (Ty.rd .raw r0 x9)).set (x9:Int).toNat (Ty.rd .raw r0 x8)))else none)else none)else none)else none)else none)else none)else none)else none)else none)else none)else none)else none)else none)else none)else none)else none)else(some r0):=(Zv _ _ _ _).trans (by kernel_rfl)
noncomputable def Zr.con:Con:=⟨Zr.fn.ins,Zr.fn.outs,(List Value),fun x=>Zr.f x.1 x.2.1 x.2.2.1 (fun z0 z1=>x.2.2.2.1 (z0,z1,())),fun r=>((()),(r,()))⟩
theorem Zr.valid:Valid Tryz.prog 279 Zr.con:=fnV Zr.fn Zr.E Zr.enc ⟨ttOk,Zaq⟩ Tryz.func279
end Go.Proofs.YthmcpmnhdbeahaaGreat.R
namespace Go.Proofs.YthmcpmnhdbeahaaGreat.R
open Go Go.RowKit Go.Proofs.YthmcpmnhdbeahaaGreat.D
noncomputable def Zd.E:Env:={ tt:=TT,con:=[],frz:=[],rows:=[],live:=[(3,[0,1,2,3,9,10]),(5,[0,1,2,3,9,10]),(14,[0,1,2,3,9,10,11]),(18,[0,1,2,3,9,10]),(20,[0,1,2,3,9,10,12])],n:=141,pin:=1,nils:=[] }
noncomputable def Zd.fn:D.Fn:={ body:=Tryz.f280.body.getD .skip,res:=Tryz.f280.results.toList,ins:=[.one (.own 27 true .raw),.one (.v (.int .i64)),.one (.v (.int .i64)),.one (.fn [.raw,.raw] (.int .i64))],outs:=[.one (.v .bool)] }
def Zd.enc (y:lsd (flats Zd.fn.outs)×lsd (ios Zd.fn.ins)):Bool×(List Value):=(y.1.1,y.2.1)
noncomputable def Zd.f (l0:List Value) (a1:Int) (a2:Int) (f3:Value→Value→Option Int):Option (Bool×(List Value)):=denF Zd.E Zd.fn Zd.enc (l0,a1,a2,fun x=>f3 x.1 x.2.1,())
noncomputable def Zd.l0 (x1:Int) (x2:Int) (fx3:Value→Value→Option Int) (x9:Int) (x10:Int) (r0:List Value):Option (Bool×(List Value)):=denAt Zd.E Zd.fn Zd.enc [1,1,0,1,0] { fr:=[(0,.lf (.own 0)),(1,.lf (.int .i64 x1)),(2,.lf (.int .i64 x2)),(3,.lf (.fn [.raw,.raw] (.int .i64) (fun x=>fx3 x.1 x.2.1))),(9,.lf (.int .i64 x9)),(10,.lf (.int .i64 x10))],ob:=[(0,.row 27 true .raw r0)],nx:=1 }
noncomputable def Zd.l1 (x1:Int) (x2:Int) (fx3:Value→Value→Option Int) (x9:Int) (x10:Int) (r0:List Value):Option (Bool×(List Value)):=denAt Zd.E Zd.fn Zd.enc [1,1,0,1,0,0,1,0,0,0,0] { fr:=[(0,.lf (.own 0)),(1,.lf (.int .i64 x1)),(2,.lf (.int .i64 x2)),(3,.lf (.fn [.raw,.raw] (.int .i64) (fun x=>fx3 x.1 x.2.1))),(9,.lf (.int .i64 x9)),(10,.lf (.int .i64 x10))],ob:=[(0,.row 27 true .raw r0)],nx:=1 }
noncomputable def Zd.l2 (x1:Int) (x2:Int) (fx3:Value→Value→Option Int) (x9:Int) (x10:Int) (x11:Int) (r0:List Value):Option (Bool×(List Value)):=denAt Zd.E Zd.fn Zd.enc [1,1,0,1,0,0,1,0,0,1,1,1,1,0,1,0,1,0] { fr:=[(0,.lf (.own 0)),(1,.lf (.int .i64 x1)),(2,.lf (.int .i64 x2)),(3,.lf (.fn [.raw,.raw] (.int .i64) (fun x=>fx3 x.1 x.2.1))),(9,.lf (.int .i64 x9)),(10,.lf (.int .i64 x10)),(11,.lf (.int .i64 x11))],ob:=[(0,.row 27 true .raw r0)],nx:=1 }
noncomputable def Zd.j3 (x1:Int) (x2:Int) (fx3:Value→Value→Option Int) (x9:Int) (x10:Int) (r0:List Value):Option (Bool×(List Value)):=denAt Zd.E Zd.fn Zd.enc [1,1,0,1,0,0,1,0,0,1,1,1,1,1] { fr:=[(0,.lf (.own 0)),(1,.lf (.int .i64 x1)),(2,.lf (.int .i64 x2)),(3,.lf (.fn [.raw,.raw] (.int .i64) (fun x=>fx3 x.1 x.2.1))),(9,.lf (.int .i64 x9)),(10,.lf (.int .i64 x10))],ob:=[(0,.row 27 true .raw r0)],nx:=1 }
noncomputable def Zd.l4 (x1:Int) (x2:Int) (fx3:Value→Value→Option Int) (x9:Int) (x10:Int) (x12:Int) (r0:List Value):Option (Bool×(List Value)):=denAt Zd.E Zd.fn Zd.enc [1,1,0,1,0,0,1,0,0,1,1,1,1,1,1,0,1,0] { fr:=[(0,.lf (.own 0)),(1,.lf (.int .i64 x1)),(2,.lf (.int .i64 x2)),(3,.lf (.fn [.raw,.raw] (.int .i64) (fun x=>fx3 x.1 x.2.1))),(9,.lf (.int .i64 x9)),(10,.lf (.int .i64 x10)),(12,.lf (.int .i64 x12))],ob:=[(0,.row 27 true .raw r0)],nx:=1 }
theorem Zd.f_eq (l0:List Value) (a1:Int) (a2:Int) (f3:Value→Value→Option Int):Zd.f l0 a1 a2 f3=Zd.l0 a1 a2 f3 (wrapI (a1+1)) 0 l0:=by kernel_rfl
theorem Zd.l0_eq (x1:Int) (x2:Int) (fx3:Value→Value→Option Int) (x9:Int) (x10:Int) (r0:List Value):Zd.l0 x1 x2 fx3 x9 x10 r0=if x10 < 5 then(Zd.l1 x1 x2 fx3 x9 x10 r0)else(some (false,r0)):=(Zv _ _ _ _).trans (by kernel_rfl)
theorem Zd.l1_eq (x1:Int) (x2:Int) (fx3:Value→Value→Option Int) (x9:Int) (x10:Int) (r0:List Value):Zd.l1 x1 x2 fx3 x9 x10 r0=if x9 < x2 then(if 0≤x9 then(if x9 < (r0.length:Int)then(if 0≤x9 then(if x9 < (r0.length:Int)then(if 0≤wrapI (x9 - 1)then(if wrapI (x9 - 1) < (r0.length:Int)then(if 0≤wrapI (x9 - 1)then(if wrapI (x9 - 1) < (r0.length:Int)then((fx3 (Ty.rd .raw r0 x9) (Ty.rd .raw r0 (wrapI (x9 - 1)))).bind fun t33=>if t33 < 0 then(if x9=x2 then(some (true,r0))else(if(wrapI (x2 - x1)) < 50 then(some (false,r0))else(if 0≤wrapI (x9 - 1)then(if wrapI (x9 - 1) < (r0.length:Int)then(if 0≤wrapI (x9 - 1)then(if wrapI (x9 - 1) < (r0.length:Int)then(if 0≤x9 then(if x9 < (r0.length:Int)then(if 0≤x9 then(if x9 < (r0.length:Int)then(if 0≤x9 then(if x9 < (r0.length:Int)then(if 0≤x9 then(if x9 < (r0.length:Int)then(if 0≤wrapI (x9 - 1)then(if wrapI (x9 - 1) < ((r0.set (x9:Int).toNat (Ty.rd .raw r0 (wrapI (x9 - 1)))).length:Int)then(if 0≤wrapI (x9 - 1)then(if wrapI (x9 - 1) < ((r0.set (x9:Int).toNat (Ty.rd .raw r0 (wrapI (x9 - 1)))).length:Int)then(if(wrapI (x9 - x1))≥2 then(Zd.l2 x1 x2 fx3 x9 x10 (wrapI (x9 - 1)) ((r0.set (x9:Int).toNat (Ty.rd .raw r0 (wrapI (x9 - 1)))).set (wrapI (x9 - 1):Int).toNat (Ty.rd .raw r0 x9)))else(Zd.j3 x1 x2 fx3 x9 x10 ((r0.set (x9:Int).toNat (Ty.rd .raw r0 (wrapI (x9 - 1)))).set (wrapI (x9 - 1):Int).toNat (Ty.rd .raw r0 x9))))else none)else none)else none)else none)else none)else none)else none)else none)else none)else none)else none)else none)else none)else none)else none)else none)))else(Zd.l1 x1 x2 fx3 (wrapI (x9+1)) x10 r0))else none)else none)else none)else none)else none)else none)else none)else none)else(if x9=x2 then(some (true,r0))else(if(wrapI (x2 - x1)) < 50 then(some (false,r0))else(if 0≤wrapI (x9 - 1)then(if wrapI (x9 - 1) < (r0.length:Int)then(if 0≤wrapI (x9 - 1)then(if wrapI (x9 - 1) < (r0.length:Int)then(if 0≤x9 then(if x9 < (r0.length:Int)then(if 0≤x9 then(if x9 < (r0.length:Int)then(if 0≤x9 then(if x9 < (r0.length:Int)then(if 0≤x9 then(if x9 < (r0.length:Int)then(if 0≤wrapI (x9 - 1)then(if wrapI (x9 - 1) < ((r0.set (x9:Int).toNat (Ty.rd .raw r0 (wrapI (x9 - 1)))).length:Int)then(if 0≤wrapI (x9 - 1)then(if wrapI (x9 - 1) < ((r0.set (x9:Int).toNat (Ty.rd .raw r0 (wrapI (x9 - 1)))).length:Int)then(if(wrapI (x9 - x1))≥2 then(Zd.l2 x1 x2 fx3 x9 x10 (wrapI (x9 - 1)) ((r0.set (x9:Int).toNat (Ty.rd .raw r0 (wrapI (x9 - 1)))).set (wrapI (x9 - 1):Int).toNat (Ty.rd .raw r0 x9)))else(Zd.j3 x1 x2 fx3 x9 x10 ((r0.set (x9:Int).toNat (Ty.rd .raw r0 (wrapI (x9 - 1)))).set (wrapI (x9 - 1):Int).toNat (Ty.rd .raw r0 x9))))else none)else none)else none)else none)else none)else none)else none)else none)else none)else none)else none)else none)else none)else none)else none)else none))):=(Zv _ _ _ _).trans (by kernel_rfl)
theorem Zd.l2_eq (x1:Int) (x2:Int) (fx3:Value→Value→Option Int) (x9:Int) (x10:Int) (x11:Int) (r0:List Value):Zd.l2 x1 x2 fx3 x9 x10 x11 r0=if x11≥1 then(if 0≤x11 then(if x11 < (r0.length:Int)then(if 0≤x11 then(if x11 < (r0.length:Int)then(if 0≤wrapI (x11 - 1)then(if wrapI (x11 - 1) < (r0.length:Int)then(if 0≤wrapI (x11 - 1)then(if wrapI (x11 - 1) < (r0.length:Int)then((fx3 (Ty.rd .raw r0 x11) (Ty.rd .raw r0 (wrapI (x11 - 1)))).bind fun t82=>if t82 < 0 then(if 0≤wrapI (x11 - 1)then(if wrapI (x11 - 1) < (r0.length:Int)then(if 0≤wrapI (x11 - 1)then(if wrapI (x11 - 1) < (r0.length:Int)then(if 0≤x11 then(if x11 < (r0.length:Int)then(if 0≤x11 then(if x11 < (r0.length:Int)then(if 0≤x11 then(if x11 < (r0.length:Int)then(if 0≤x11 then(if x11 < (r0.length:Int)then(if 0≤wrapI (x11 - 1)then(if wrapI (x11 - 1) < ((r0.set (x11:Int).toNat (Ty.rd .raw r0 (wrapI (x11 - 1)))).length:Int)then(if 0≤wrapI (x11 - 1)then(if wrapI (x11 - 1) < ((r0.set (x11:Int).toNat (Ty.rd .raw r0 (wrapI (x11 - 1)))).length:Int)then(Zd.l2 x1 x2 fx3 x9 x10 (wrapI (x11 - 1)) ((r0.set (x11:Int).toNat (Ty.rd .raw r0 (wrapI (x11 - 1)))).set (wrapI (x11 - 1):Int).toNat (Ty.rd .raw r0 x11)))else none)else none)else none)else none)else none)else none)else none)else none)else none)else none)else none)else none)else none)else none)else none)else none)else(Zd.j3 x1 x2 fx3 x9 x10 r0))else none)else none)else none)else none)else none)else none)else none)else none)else(Zd.j3 x1 x2 fx3 x9 x10 r0):=(Zv _ _ _ _).trans (by kernel_rfl)
theorem Zd.j3_eq (x1:Int) (x2:Int) (fx3:Value→Value→Option Int) (x9:Int) (x10:Int) (r0:List Value):Zd.j3 x1 x2 fx3 x9 x10 r0=if(wrapI (x2 - x9))≥2 then(Zd.l4 x1 x2 fx3 x9 x10 (wrapI (x9+1)) r0)else(Zd.l0 x1 x2 fx3 x9 (wrapI (x10+1)) r0):=by kernel_rfl
theorem Zd.l4_eq (x1:Int) (x2:Int) (fx3:Value→Value→Option Int) (x9:Int) (x10:Int) (x12:Int) (r0:List Value):Zd.l4 x1 x2 fx3 x9 x10 x12 r0=if x12 < x2 then(if 0≤x12 then(if x12 < (r0.length:Int)then(if 0≤x12 then(if x12 < (r0.length:Int)then(if 0≤wrapI (x12 - 1)then(if wrapI (x12 - 1) < (r0.length:Int)then(if 0≤wrapI (x12 - 1)then(if wrapI (x12 - 1) < (r0.length:Int)then((fx3 (Ty.rd .raw r0 x12) (Ty.rd .raw r0 (wrapI (x12 - 1)))).bind fun t122=>if t122 < 0 then(if 0≤wrapI (x12 - 1)then(if wrapI (x12 - 1) < (r0.length:Int)then(if 0≤wrapI (x12 - 1)then(if wrapI (x12 - 1) < (r0.length:Int)then(if 0≤x12 then(if x12 < (r0.length:Int)then(if 0≤x12 then(if x12 < (r0.length:Int)then(if 0≤x12 then(if x12 < (r0.length:Int)then(if 0≤x12 then(if x12 < (r0.length:Int)then(if 0≤wrapI (x12 - 1)then(if wrapI (x12 - 1) < ((r0.set (x12:Int).toNat (Ty.rd .raw r0 (wrapI (x12 - 1)))).length:Int)then(if 0≤wrapI (x12 - 1)then(if wrapI (x12 - 1) < ((r0.set (x12:Int).toNat (Ty.rd .raw r0 (wrapI (x12 - 1)))).length:Int)then(Zd.l4 x1 x2 fx3 x9 x10 (wrapI (x12+1)) ((r0.set (x12:Int).toNat (Ty.rd .raw r0 (wrapI (x12 - 1)))).set (wrapI (x12 - 1):Int).toNat (Ty.rd .raw r0 x12)))else none)else none)else none)else none)else none)else none)else none)else none)else none)else none)else none)else none)else none)else none)else none)else none)else(Zd.l0 x1 x2 fx3 x9 (wrapI (x10+1)) r0))else none)else none)else none)else none)else none)else none)else none)else none)else(Zd.l0 x1 x2 fx3 x9 (wrapI (x10+1)) r0):=(Zv _ _ _ _).trans (by kernel_rfl)
noncomputable def Zd.con:Con:=⟨Zd.fn.ins,Zd.fn.outs,Bool×(List Value),fun x=>Zd.f x.1 x.2.1 x.2.2.1 (fun z0 z1=>x.2.2.2.1 (z0,z1,())),fun r=>((r.1,()),(r.2,()))⟩
theorem Zd.valid:Valid Tryz.prog 280 Zd.con:=fnV Zd.fn Zd.E Zd.enc ⟨ttOk,Zaq⟩ Tryz.func280
end Go.Proofs.YthmcpmnhdbeahaaGreat.R
namespace Go.Proofs.YthmcpmnhdbeahaaGreat.R
open Go Go.RowKit Go.Proofs.YthmcpmnhdbeahaaGreat.D
noncomputable def Zf.E:Env:={ tt:=TT,con:=[],frz:=[],rows:=[],live:=[(3,[0,1,4,11,12]),(5,[0,1,4,11,12])],n:=90,pin:=1,nils:=[] }
noncomputable def Zf.fn:D.Fn:={ body:=Tryz.f281.body.getD .skip,res:=Tryz.f281.results.toList,ins:=[.one (.own 27 true .raw),.one (.v (.int .i64)),.one (.v (.int .i64)),.one (.v (.int .i64)),.one (.fn [.raw,.raw] (.int .i64))],outs:=[.one (.v (.int .i64))] }
def Zf.enc (y:lsd (flats Zf.fn.outs)×lsd (ios Zf.fn.ins)):Int×(List Value):=(y.1.1,y.2.1)
noncomputable def Zf.f (l0:List Value) (a1:Int) (a2:Int) (a3:Int) (f4:Value→Value→Option Int):Option (Int×(List Value)):=denF Zf.E Zf.fn Zf.enc (l0,a1,a2,a3,fun x=>f4 x.1 x.2.1,())
noncomputable def Zf.l0 (x1:Int) (fx4:Value→Value→Option Int) (x11:Int) (x12:Int) (r0:List Value):Option (Int×(List Value)):=denAt Zf.E Zf.fn Zf.enc [1,1,1,0,0] { fr:=[(0,.lf (.own 0)),(1,.lf (.int .i64 x1)),(4,.lf (.fn [.raw,.raw] (.int .i64) (fun x=>fx4 x.1 x.2.1))),(11,.lf (.int .i64 x11)),(12,.lf (.int .i64 x12))],ob:=[(0,.row 27 true .raw r0)],nx:=1 }
noncomputable def Zf.l1 (x1:Int) (fx4:Value→Value→Option Int) (x11:Int) (x12:Int) (r0:List Value):Option (Int×(List Value)):=denAt Zf.E Zf.fn Zf.enc [1,1,1,0,0,0,0,0,0] { fr:=[(0,.lf (.own 0)),(1,.lf (.int .i64 x1)),(4,.lf (.fn [.raw,.raw] (.int .i64) (fun x=>fx4 x.1 x.2.1))),(11,.lf (.int .i64 x11)),(12,.lf (.int .i64 x12))],ob:=[(0,.row 27 true .raw r0)],nx:=1 }
noncomputable def Zf.l2 (x1:Int) (fx4:Value→Value→Option Int) (x11:Int) (x12:Int) (r0:List Value):Option (Int×(List Value)):=denAt Zf.E Zf.fn Zf.enc [1,1,1,0,0,0,0,1,0,0] { fr:=[(0,.lf (.own 0)),(1,.lf (.int .i64 x1)),(4,.lf (.fn [.raw,.raw] (.int .i64) (fun x=>fx4 x.1 x.2.1))),(11,.lf (.int .i64 x11)),(12,.lf (.int .i64 x12))],ob:=[(0,.row 27 true .raw r0)],nx:=1 }
theorem Zf.f_eq (l0:List Value) (a1:Int) (a2:Int) (a3:Int) (f4:Value→Value→Option Int):Zf.f l0 a1 a2 a3 f4=if 0≤a3 then(if a3 < (l0.length:Int)then(if 0≤a3 then(if a3 < (l0.length:Int)then(if 0≤a1 then(if a1 < (l0.length:Int)then(if 0≤a1 then(if a1 < (l0.length:Int)then(if 0≤a1 then(if a1 < (l0.length:Int)then(if 0≤a1 then(if a1 < (l0.length:Int)then(if 0≤a3 then(if a3 < ((l0.set (a1:Int).toNat (Ty.rd .raw l0 a3)).length:Int)then(if 0≤a3 then(if a3 < ((l0.set (a1:Int).toNat (Ty.rd .raw l0 a3)).length:Int)then(Zf.l0 a1 f4 (wrapI (a1+1)) (wrapI (a2 - 1)) ((l0.set (a1:Int).toNat (Ty.rd .raw l0 a3)).set (a3:Int).toNat (Ty.rd .raw l0 a1)))else none)else none)else none)else none)else none)else none)else none)else none)else none)else none)else none)else none)else none)else none)else none)else none:=by kernel_rfl
theorem Zf.l0_eq (x1:Int) (fx4:Value→Value→Option Int) (x11:Int) (x12:Int) (r0:List Value):Zf.l0 x1 fx4 x11 x12 r0=Zf.l1 x1 fx4 x11 x12 r0:=(Zv _ _ _ _).trans (by kernel_rfl)
theorem Zf.l1_eq (x1:Int) (fx4:Value→Value→Option Int) (x11:Int) (x12:Int) (r0:List Value):Zf.l1 x1 fx4 x11 x12 r0=if x11≤x12 then(if 0≤x1 then(if x1 < (r0.length:Int)then(if 0≤x1 then(if x1 < (r0.length:Int)then(if 0≤x11 then(if x11 < (r0.length:Int)then(if 0≤x11 then(if x11 < (r0.length:Int)then((fx4 (Ty.rd .raw r0 x1) (Ty.rd .raw r0 x11)).bind fun t44=>if t44 < 0 then(Zf.l2 x1 fx4 x11 x12 r0)else(Zf.l1 x1 fx4 (wrapI (x11+1)) x12 r0))else none)else none)else none)else none)else none)else none)else none)else none)else(Zf.l2 x1 fx4 x11 x12 r0):=(Zv _ _ _ _).trans (by kernel_rfl)
theorem Zf.l2_eq (x1:Int) (fx4:Value→Value→Option Int) (x11:Int) (x12:Int) (r0:List Value):Zf.l2 x1 fx4 x11 x12 r0=if x11≤x12 then(if 0≤x1 then(if x1 < (r0.length:Int)then(if 0≤x1 then(if x1 < (r0.length:Int)then(if 0≤x12 then(if x12 < (r0.length:Int)then(if 0≤x12 then(if x12 < (r0.length:Int)then((fx4 (Ty.rd .raw r0 x1) (Ty.rd .raw r0 x12)).bind fun t63=>if t63 < 0 then(Zf.l2 x1 fx4 x11 (wrapI (x12 - 1)) r0)else(if x11 > x12 then(some (x11,r0))else(if 0≤x12 then(if x12 < (r0.length:Int)then(if 0≤x12 then(if x12 < (r0.length:Int)then(if 0≤x11 then(if x11 < (r0.length:Int)then(if 0≤x11 then(if x11 < (r0.length:Int)then(if 0≤x11 then(if x11 < (r0.length:Int)then(if 0≤x11 then(if x11 < (r0.length:Int)then(if 0≤x12 then(if x12 < ((r0.set (x11:Int).toNat (Ty.rd .raw r0 x12)).length:Int)then(if 0≤x12 then(if x12 < ((r0.set (x11:Int).toNat (Ty.rd .raw r0 x12)).length:Int)then(Zf.l0 x1 fx4 (wrapI (x11+1)) (wrapI (x12 - 1)) ((r0.set (x11:Int).toNat (Ty.rd .raw r0 x12)).set (x12:Int).toNat (Ty.rd .raw r0 x11)))else none)else none)else none)else none)else none)else none)else none)else none)else none)else none)else none)else none)else none)else none)else none)else none)))else none)else none)else none)else none)else none)else none)else none)else none)else(if x11 > x12 then(some (x11,r0))else(if 0≤x12 then(if x12 < (r0.length:Int)then(if 0≤x12 then(if x12 < (r0.length:Int)then(if 0≤x11 then(if x11 < (r0.length:Int)then(if 0≤x11 then(if x11 < (r0.length:Int)then(if 0≤x11 then(if x11 < (r0.length:Int)then(if 0≤x11 then(if x11 < (r0.length:Int)then(if 0≤x12 then(if x12 < ((r0.set (x11:Int).toNat (Ty.rd .raw r0 x12)).length:Int)then(if 0≤x12 then(if x12 < ((r0.set (x11:Int).toNat (Ty.rd .raw r0 x12)).length:Int)then(Zf.l0 x1 fx4 (wrapI (x11+1)) (wrapI (x12 - 1)) ((r0.set (x11:Int).toNat (Ty.rd .raw r0 x12)).set (x12:Int).toNat (Ty.rd .raw r0 x11)))else none)else none)else none)else none)else none)else none)else none)else none)else none)else none)else none)else none)else none)else none)else none)else none)):=(Zv _ _ _ _).trans (by kernel_rfl)
noncomputable def Zf.con:Con:=⟨Zf.fn.ins,Zf.fn.outs,Int×(List Value),fun x=>Zf.f x.1 x.2.1 x.2.2.1 x.2.2.2.1 (fun z0 z1=>x.2.2.2.2.1 (z0,z1,())),fun r=>((r.1,()),(r.2,()))⟩
theorem Zf.valid:Valid Tryz.prog 281 Zf.con:=fnV Zf.fn Zf.E Zf.enc ⟨ttOk,Zaq⟩ Tryz.func281
end Go.Proofs.YthmcpmnhdbeahaaGreat.R
namespace Go.Proofs.YthmcpmnhdbeahaaGreat.R
open Go Go.RowKit Go.Proofs.YthmcpmnhdbeahaaGreat.D
noncomputable def Ze.E:Env:={ tt:=TT,con:=[],frz:=[],rows:=[],live:=[(3,[0,1,4,12,13]),(5,[0,1,4,12,13]),(13,[0,1,4,12,13]),(15,[0,1,4,12,13])],n:=178,pin:=1,nils:=[] }
noncomputable def Ze.fn:D.Fn:={ body:=Tryz.f282.body.getD .skip,res:=Tryz.f282.results.toList,ins:=[.one (.own 27 true .raw),.one (.v (.int .i64)),.one (.v (.int .i64)),.one (.v (.int .i64)),.one (.fn [.raw,.raw] (.int .i64))],outs:=[.one (.v (.int .i64)),.one (.v .bool)] }
def Ze.enc (y:lsd (flats Ze.fn.outs)×lsd (ios Ze.fn.ins)):Int×Bool×(List Value):=(y.1.1,y.1.2.1,y.2.1)
noncomputable def Ze.f (l0:List Value) (a1:Int) (a2:Int) (a3:Int) (f4:Value→Value→Option Int):Option (Int×Bool×(List Value)):=denF Ze.E Ze.fn Ze.enc (l0,a1,a2,a3,fun x=>f4 x.1 x.2.1,())
noncomputable def Ze.l0 (x1:Int) (fx4:Value→Value→Option Int) (x12:Int) (x13:Int) (r0:List Value):Option (Int×Bool×(List Value)):=denAt Ze.E Ze.fn Ze.enc [1,1,1,0,0] { fr:=[(0,.lf (.own 0)),(1,.lf (.int .i64 x1)),(4,.lf (.fn [.raw,.raw] (.int .i64) (fun x=>fx4 x.1 x.2.1))),(12,.lf (.int .i64 x12)),(13,.lf (.int .i64 x13))],ob:=[(0,.row 27 true .raw r0)],nx:=1 }
noncomputable def Ze.l1 (x1:Int) (fx4:Value→Value→Option Int) (x12:Int) (x13:Int) (r0:List Value):Option (Int×Bool×(List Value)):=denAt Ze.E Ze.fn Ze.enc [1,1,1,1,0,0] { fr:=[(0,.lf (.own 0)),(1,.lf (.int .i64 x1)),(4,.lf (.fn [.raw,.raw] (.int .i64) (fun x=>fx4 x.1 x.2.1))),(12,.lf (.int .i64 x12)),(13,.lf (.int .i64 x13))],ob:=[(0,.row 27 true .raw r0)],nx:=1 }
noncomputable def Ze.l2 (x1:Int) (fx4:Value→Value→Option Int) (x12:Int) (x13:Int) (r0:List Value):Option (Int×Bool×(List Value)):=denAt Ze.E Ze.fn Ze.enc [1,1,1,1,1,1,1,1,1,0,0] { fr:=[(0,.lf (.own 0)),(1,.lf (.int .i64 x1)),(4,.lf (.fn [.raw,.raw] (.int .i64) (fun x=>fx4 x.1 x.2.1))),(12,.lf (.int .i64 x12)),(13,.lf (.int .i64 x13))],ob:=[(0,.row 27 true .raw r0)],nx:=1 }
noncomputable def Ze.l3 (x1:Int) (fx4:Value→Value→Option Int) (x12:Int) (x13:Int) (r0:List Value):Option (Int×Bool×(List Value)):=denAt Ze.E Ze.fn Ze.enc [1,1,1,1,1,1,1,1,1,0,0,0,0,0,0] { fr:=[(0,.lf (.own 0)),(1,.lf (.int .i64 x1)),(4,.lf (.fn [.raw,.raw] (.int .i64) (fun x=>fx4 x.1 x.2.1))),(12,.lf (.int .i64 x12)),(13,.lf (.int .i64 x13))],ob:=[(0,.row 27 true .raw r0)],nx:=1 }
noncomputable def Ze.l4 (x1:Int) (fx4:Value→Value→Option Int) (x12:Int) (x13:Int) (r0:List Value):Option (Int×Bool×(List Value)):=denAt Ze.E Ze.fn Ze.enc [1,1,1,1,1,1,1,1,1,0,0,0,0,1,0,0] { fr:=[(0,.lf (.own 0)),(1,.lf (.int .i64 x1)),(4,.lf (.fn [.raw,.raw] (.int .i64) (fun x=>fx4 x.1 x.2.1))),(12,.lf (.int .i64 x12)),(13,.lf (.int .i64 x13))],ob:=[(0,.row 27 true .raw r0)],nx:=1 }
theorem Ze.f_eq (l0:List Value) (a1:Int) (a2:Int) (a3:Int) (f4:Value→Value→Option Int):Ze.f l0 a1 a2 a3 f4=if 0≤a3 then(if a3 < (l0.length:Int)then(if 0≤a3 then(if a3 < (l0.length:Int)then(if 0≤a1 then(if a1 < (l0.length:Int)then(if 0≤a1 then(if a1 < (l0.length:Int)then(if 0≤a1 then(if a1 < (l0.length:Int)then(if 0≤a1 then(if a1 < (l0.length:Int)then(if 0≤a3 then(if a3 < ((l0.set (a1:Int).toNat (Ty.rd .raw l0 a3)).length:Int)then(if 0≤a3 then(if a3 < ((l0.set (a1:Int).toNat (Ty.rd .raw l0 a3)).length:Int)then(Ze.l0 a1 f4 (wrapI (a1+1)) (wrapI (a2 - 1)) ((l0.set (a1:Int).toNat (Ty.rd .raw l0 a3)).set (a3:Int).toNat (Ty.rd .raw l0 a1)))else none)else none)else none)else none)else none)else none)else none)else none)else none)else none)else none)else none)else none)else none)else none)else none:=by kernel_rfl
theorem Ze.l0_eq (x1:Int) (fx4:Value→Value→Option Int) (x12:Int) (x13:Int) (r0:List Value):Ze.l0 x1 fx4 x12 x13 r0=if x12≤x13 then(if 0≤x12 then(if x12 < (r0.length:Int)then(if 0≤x12 then(if x12 < (r0.length:Int)then(if 0≤x1 then(if x1 < (r0.length:Int)then(if 0≤x1 then(if x1 < (r0.length:Int)then((fx4 (Ty.rd .raw r0 x12) (Ty.rd .raw r0 x1)).bind fun t45=>if t45 < 0 then(Ze.l0 x1 fx4 (wrapI (x12+1)) x13 r0)else(Ze.l1 x1 fx4 x12 x13 r0))else none)else none)else none)else none)else none)else none)else none)else none)else(Ze.l1 x1 fx4 x12 x13 r0):=(Zv _ _ _ _).trans (by kernel_rfl)
theorem Ze.l1_eq (x1:Int) (fx4:Value→Value→Option Int) (x12:Int) (x13:Int) (r0:List Value):Ze.l1 x1 fx4 x12 x13 r0=if x12≤x13 then(if 0≤x13 then(if x13 < (r0.length:Int)then(if 0≤x13 then(if x13 < (r0.length:Int)then(if 0≤x1 then(if x1 < (r0.length:Int)then(if 0≤x1 then(if x1 < (r0.length:Int)then((fx4 (Ty.rd .raw r0 x13) (Ty.rd .raw r0 x1)).bind fun t63=>if t63 < 0 then(if x12 > x13 then(if 0≤x1 then(if x1 < (r0.length:Int)then(if 0≤x1 then(if x1 < (r0.length:Int)then(if 0≤x13 then(if x13 < (r0.length:Int)then(if 0≤x13 then(if x13 < (r0.length:Int)then(if 0≤x13 then(if x13 < (r0.length:Int)then(if 0≤x13 then(if x13 < (r0.length:Int)then(if 0≤x1 then(if x1 < ((r0.set (x13:Int).toNat (Ty.rd .raw r0 x1)).length:Int)then(if 0≤x1 then(if x1 < ((r0.set (x13:Int).toNat (Ty.rd .raw r0 x1)).length:Int)then(some (x13,true,(r0.set (x13:Int).toNat (Ty.rd .raw r0 x1)).set (x1:Int).toNat (Ty.rd .raw r0 x13)))else none)else none)else none)else none)else none)else none)else none)else none)else none)else none)else none)else none)else none)else none)else none)else none)else(if 0≤x13 then(if x13 < (r0.length:Int)then(if 0≤x13 then(if x13 < (r0.length:Int)then(if 0≤x12 then(if x12 < (r0.length:Int)then(if 0≤x12 then(if x12 < (r0.length:Int)then(if 0≤x12 then(if x12 < (r0.length:Int)then(if 0≤x12 then(if x12 < (r0.length:Int)then(if 0≤x13 then(if x13 < ((r0.set (x12:Int).toNat (Ty.rd .raw r0 x13)).length:Int)then(if 0≤x13 then(if x13 < ((r0.set (x12:Int).toNat (Ty.rd .raw r0 x13)).length:Int)then(Ze.l2 x1 fx4 (wrapI (x12+1)) (wrapI (x13 - 1)) ((r0.set (x12:Int).toNat (Ty.rd .raw r0 x13)).set (x13:Int).toNat (Ty.rd .raw r0 x12)))else none)else none)else none)else none)else none)else none)else none)else none)else none)else none)else none)else none)else none)else none)else none)else none))else(Ze.l1 x1 fx4 x12 (wrapI (x13 - 1)) r0))else none)else none)else none)else none)else none)else none)else none)else none)else(if x12 > x13 then(if 0≤x1 then(if x1 < (r0.length:Int)then(if 0≤x1 then(if x1 < (r0.length:Int)then(if 0≤x13 then(if x13 < (r0.length:Int)then(if 0≤x13 then(if x13 < (r0.length:Int)then(if 0≤x13 then(if x13 < (r0.length:Int)then(if 0≤x13 then(if x13 < (r0.length:Int)then(if 0≤x1 then(if x1 < ((r0.set (x13:Int).toNat (Ty.rd .raw r0 x1)).length:Int)then(if 0≤x1 then(if x1 < ((r0.set (x13:Int).toNat (Ty.rd .raw r0 x1)).length:Int)then(some (x13,true,(r0.set (x13:Int).toNat (Ty.rd .raw r0 x1)).set (x1:Int).toNat (Ty.rd .raw r0 x13)))else none)else none)else none)else none)else none)else none)else none)else none)else none)else none)else none)else none)else none)else none)else none)else none)else(if 0≤x13 then(if x13 < (r0.length:Int)then(if 0≤x13 then(if x13 < (r0.length:Int)then(if 0≤x12 then(if x12 < (r0.length:Int)then(if 0≤x12 then(if x12 < (r0.length:Int)then(if 0≤x12 then(if x12 < (r0.length:Int)then(if 0≤x12 then(if x12 < (r0.length:Int)then(if 0≤x13 then(if x13 < ((r0.set (x12:Int).toNat (Ty.rd .raw r0 x13)).length:Int)then(if 0≤x13 then(if x13 < ((r0.set (x12:Int).toNat (Ty.rd .raw r0 x13)).length:Int)then(Ze.l2 x1 fx4 (wrapI (x12+1)) (wrapI (x13 - 1)) ((r0.set (x12:Int).toNat (Ty.rd .raw r0 x13)).set (x13:Int).toNat (Ty.rd .raw r0 x12)))else none)else none)else none)else none)else none)else none)else none)else none)else none)else none)else none)else none)else none)else none)else none)else none)):=(Zv _ _ _ _).trans (by kernel_rfl)
theorem Ze.l2_eq (x1:Int) (fx4:Value→Value→Option Int) (x12:Int) (x13:Int) (r0:List Value):Ze.l2 x1 fx4 x12 x13 r0=Ze.l3 x1 fx4 x12 x13 r0:=(Zv _ _ _ _).trans (by kernel_rfl)
theorem Ze.l3_eq (x1:Int) (fx4:Value→Value→Option Int) (x12:Int) (x13:Int) (r0:List Value):Ze.l3 x1 fx4 x12 x13 r0=if x12≤x13 then(if 0≤x12 then(if x12 < (r0.length:Int)then(if 0≤x12 then(if x12 < (r0.length:Int)then(if 0≤x1 then(if x1 < (r0.length:Int)then(if 0≤x1 then(if x1 < (r0.length:Int)then((fx4 (Ty.rd .raw r0 x12) (Ty.rd .raw r0 x1)).bind fun t118=>if t118 < 0 then(Ze.l3 x1 fx4 (wrapI (x12+1)) x13 r0)else(Ze.l4 x1 fx4 x12 x13 r0))else none)else none)else none)else none)else none)else none)else none)else none)else(Ze.l4 x1 fx4 x12 x13 r0):=(Zv _ _ _ _).trans (by kernel_rfl)
theorem Ze.l4_eq (x1:Int) (fx4:Value→Value→Option Int) (x12:Int) (x13:Int) (r0:List Value):Ze.l4 x1 fx4 x12 x13 r0=if x12≤x13 then(if 0≤x13 then(if x13 < (r0.length:Int)then(if 0≤x13 then(if x13 < (r0.length:Int)then(if 0≤x1 then(if x1 < (r0.length:Int)then(if 0≤x1 then(if x1 < (r0.length:Int)then((fx4 (Ty.rd .raw r0 x13) (Ty.rd .raw r0 x1)).bind fun t136=>if t136 < 0 then(if x12 > x13 then(if 0≤x1 then(if x1 < (r0.length:Int)then(if 0≤x1 then(if x1 < (r0.length:Int)then(if 0≤x13 then(if x13 < (r0.length:Int)then(if 0≤x13 then(if x13 < (r0.length:Int)then(if 0≤x13 then(if x13 < (r0.length:Int)then(if 0≤x13 then(if x13 < (r0.length:Int)then(if 0≤x1 then(if x1 < ((r0.set (x13:Int).toNat (Ty.rd .raw r0 x1)).length:Int)then(if 0≤x1 then(if x1 < ((r0.set (x13:Int).toNat (Ty.rd .raw r0 x1)).length:Int)then(some (x13,false,(r0.set (x13:Int).toNat (Ty.rd .raw r0 x1)).set (x1:Int).toNat (Ty.rd .raw r0 x13)))else none)else none)else none)else none)else none)else none)else none)else none)else none)else none)else none)else none)else none)else none)else none)else none)else(if 0≤x13 then(if x13 < (r0.length:Int)then(if 0≤x13 then(if x13 < (r0.length:Int)then(if 0≤x12 then(if x12 < (r0.length:Int)then(if 0≤x12 then(if x12 < (r0.length:Int)then(if 0≤x12 then(if x12 < (r0.length:Int)then(if 0≤x12 then(if x12 < (r0.length:Int)then(if 0≤x13 then(if x13 < ((r0.set (x12:Int).toNat (Ty.rd .raw r0 x13)).length:Int)then(if 0≤x13 then(if x13 < ((r0.set (x12:Int).toNat (Ty.rd .raw r0 x13)).length:Int)then(Ze.l2 x1 fx4 (wrapI (x12+1)) (wrapI (x13 - 1)) ((r0.set (x12:Int).toNat (Ty.rd .raw r0 x13)).set (x13:Int).toNat (Ty.rd .raw r0 x12)))else none)else none)else none)else none)else none)else none)else none)else none)else none)else none)else none)else none)else none)else none)else none)else none))else(Ze.l4 x1 fx4 x12 (wrapI (x13 - 1)) r0))else none)else none)else none)else none)else none)else none)else none)else none)else(if x12 > x13 then(if 0≤x1 then(if x1 < (r0.length:Int)then(if 0≤x1 then(if x1 < (r0.length:Int)then(if 0≤x13 then(if x13 < (r0.length:Int)then(if 0≤x13 then(if x13 < (r0.length:Int)then(if 0≤x13 then(if x13 < (r0.length:Int)then(if 0≤x13 then(if x13 < (r0.length:Int)then(if 0≤x1 then(if x1 < ((r0.set (x13:Int).toNat (Ty.rd .raw r0 x1)).length:Int)then(if 0≤x1 then(if x1 < ((r0.set (x13:Int).toNat (Ty.rd .raw r0 x1)).length:Int)then(some (x13,false,(r0.set (x13:Int).toNat (Ty.rd .raw r0 x1)).set (x1:Int).toNat (Ty.rd .raw r0 x13)))else none)else none)else none)else none)else none)else none)else none)else none)else none)else none)else none)else none)else none)else none)else none)else none)else(if 0≤x13 then(if x13 < (r0.length:Int)then(if 0≤x13 then(if x13 < (r0.length:Int)then(if 0≤x12 then(if x12 < (r0.length:Int)then(if 0≤x12 then(if x12 < (r0.length:Int)then(if 0≤x12 then(if x12 < (r0.length:Int)then(if 0≤x12 then(if x12 < (r0.length:Int)then(if 0≤x13 then(if x13 < ((r0.set (x12:Int).toNat (Ty.rd .raw r0 x13)).length:Int)then(if 0≤x13 then(if x13 < ((r0.set (x12:Int).toNat (Ty.rd .raw r0 x13)).length:Int)then(Ze.l2 x1 fx4 (wrapI (x12+1)) (wrapI (x13 - 1)) ((r0.set (x12:Int).toNat (Ty.rd .raw r0 x13)).set (x13:Int).toNat (Ty.rd .raw r0 x12)))else none)else none)else none)else none)else none)else none)else none)else none)else none)else none)else none)else none)else none)else none)else none)else none)):=(Zv _ _ _ _).trans (by kernel_rfl)
noncomputable def Ze.con:Con:=⟨Ze.fn.ins,Ze.fn.outs,Int×Bool×(List Value),fun x=>Ze.f x.1 x.2.1 x.2.2.1 x.2.2.2.1 (fun z0 z1=>x.2.2.2.2.1 (z0,z1,())),fun r=>((r.1,r.2.1,()),(r.2.2,()))⟩
theorem Ze.valid:Valid Tryz.prog 282 Ze.con:=fnV Ze.fn Ze.E Ze.enc ⟨ttOk,Zaq⟩ Tryz.func282
end Go.Proofs.YthmcpmnhdbeahaaGreat.R
namespace Go.Proofs.YthmcpmnhdbeahaaGreat.D
open Go Go.RowKit
end Go.Proofs.YthmcpmnhdbeahaaGreat.D
namespace Go.Proofs.YthmcpmnhdbeahaaGreat.D
noncomputable def fuel:Nat:=Classical.choose (⟨64,rfl⟩:∃n,n=64)
theorem ZfR:fuel=64:=Classical.choose_spec (⟨64,rfl⟩:∃n,n=64)
theorem Zfc {P:Go.Program} {g:Go.FuncId} (hc:Callable P g) {ins outs:List ASh} {R:Type} {dec:R→lsd (flats outs)×lsd (ios ins)}:Valid P g ⟨ins,outs,R,fun _=>none,dec⟩:=⟨hc,fun x r h=>by cases h⟩
end Go.Proofs.YthmcpmnhdbeahaaGreat.D
namespace Go.Proofs.YthmcpmnhdbeahaaGreat.R
open Go Go.RowKit Go.Proofs.YthmcpmnhdbeahaaGreat.D
noncomputable def Za.E (c:Con):Env:={ tt:=TT,con:=[(245,c),(275,Zg.con),(276,Zm.con),(278,ZF.con),(279,Zr.con),(280,Zd.con),(282,Ze.con),(281,Zf.con),(277,Zo.con)],frz:=[],rows:=[],live:=[(2,[0,1,2,3,4,10,11])],n:=148,pin:=1,nils:=[10,11] }
noncomputable def Za.fn:D.Fn:={ body:=Tryz.f245.body.getD .skip,res:=Tryz.f245.results.toList,ins:=[.one (.own 27 true .raw),.one (.v (.int .i64)),.one (.v (.int .i64)),.one (.v (.int .i64)),.one (.fn [.raw,.raw] (.int .i64))],outs:=[] }
def Za.enc (y:lsd (flats Za.fn.outs)×lsd (ios Za.fn.ins)):(List Value):=y.2.1
noncomputable def Za.cof (F:lsd (flats Za.fn.ins)→Option (List Value)):Con:=⟨Za.fn.ins,Za.fn.outs,(List Value),F,fun r=>((()),(r,()))⟩
noncomputable def Za.fx:Nat→lsd (flats Za.fn.ins)→Option (List Value)
 | 0=>fun _=>none
 | n+1=>fun x=>denF (Za.E (Za.cof (Za.fx n))) Za.fn Za.enc x
noncomputable def Za.cn (n:Nat):Con:=Za.cof (Za.fx n)
noncomputable def Za.f (n:Nat) (l0:List Value) (a1:Int) (a2:Int) (a3:Int) (f4:Value→Value→Option Int):Option (List Value):=Za.fx n (l0,a1,a2,a3,fun x=>f4 x.1 x.2.1,())
noncomputable def Za.l0 (n:Nat) (x1:Int) (x2:Int) (x3:Int) (fx4:Value→Value→Option Int) (x10:Bool) (x11:Bool) (r0:List Value):Option (List Value):=denAt (Za.E (Za.cn n)) Za.fn Za.enc [1,1,0] { fr:=[(0,.lf (.own 0)),(1,.lf (.int .i64 x1)),(2,.lf (.int .i64 x2)),(3,.lf (.int .i64 x3)),(4,.lf (.fn [.raw,.raw] (.int .i64) (fun x=>fx4 x.1 x.2.1))),(10,.lf (Zd9 x10)),(11,.lf (Zd9 x11))],ob:=[(0,.row 27 true .raw r0)],nx:=1 }
theorem Za.f_eq (n:Nat) (l0:List Value) (a1:Int) (a2:Int) (a3:Int) (f4:Value→Value→Option Int):Za.f (n+1) l0 a1 a2 a3 f4=Za.l0 n a1 a2 a3 f4 true true l0:=by kernel_rfl
theorem Za.l0_eq (n:Nat) (x1:Int) (x2:Int) (x3:Int) (fx4:Value→Value→Option Int) (x10:Bool) (x11:Bool) (r0:List Value):Za.l0 n x1 x2 x3 fx4 x10 x11 r0=if(wrapI (x2 - x1))≤12 then((Zg.f r0 x1 x2 (fun z0 z1=>(fx4 z0 z1).map fun z=>z)).bind fun t30=>some t30)else(if x3=0 then((Zm.f r0 x1 x2 (fun z0 z1=>(fx4 z0 z1).map fun z=>z)).bind fun t37=>some t37)else(if x10=true then((ZF.f r0 x1 x2 (fun z0 z1=>(fx4 z0 z1).map fun z=>z)).bind fun t52=>if t52.2=2 then((Zr.f r0 x1 x2 (fun z0 z1=>(fx4 z0 z1).map fun z=>z)).bind fun t61=>if x10=true then(if x11=true then((Zd.f t61 x1 x2 (fun z0 z1=>(fx4 z0 z1).map fun z=>z)).bind fun t80=>if t80.1=true then(some t80.2)else(if x1 > 0 then(if 0≤wrapI (x1 - 1)then(if wrapI (x1 - 1) < (t80.2.length:Int)then(if 0≤wrapI (x1 - 1)then(if wrapI (x1 - 1) < (t80.2.length:Int)then(if 0≤wrapI ((wrapI (x2 - 1)) - (wrapI (t52.1 - x1)))then(if wrapI ((wrapI (x2 - 1)) - (wrapI (t52.1 - x1))) < (t80.2.length:Int)then(if 0≤wrapI ((wrapI (x2 - 1)) - (wrapI (t52.1 - x1)))then(if wrapI ((wrapI (x2 - 1)) - (wrapI (t52.1 - x1))) < (t80.2.length:Int)then((fx4 (Ty.rd .raw t80.2 (wrapI (x1 - 1))) (Ty.rd .raw t80.2 (wrapI ((wrapI (x2 - 1)) - (wrapI (t52.1 - x1)))))).bind fun t94=>if t94 < 0 then((Ze.f t80.2 x1 x2 (wrapI ((wrapI (x2 - 1)) - (wrapI (t52.1 - x1)))) (fun z0 z1=>(fx4 z0 z1).map fun z=>z)).bind fun t111=>if(wrapI (t111.1 - x1)) < (wrapI (x2 - t111.1))then((Za.f n t111.2.2 x1 t111.1 x3 (fun z0 z1=>(fx4 z0 z1).map fun z=>z)).bind fun t134=>Za.l0 n (wrapI (t111.1+1)) x2 x3 fx4 (decide ((wrapI (t111.1 - x1))≥(wrapI ((wrapI (x2 - x1):Int).tdiv 8)))) (decide (t111.2.1=true)) t134)else((Za.f n t111.2.2 (wrapI (t111.1+1)) x2 x3 (fun z0 z1=>(fx4 z0 z1).map fun z=>z)).bind fun t146=>Za.l0 n x1 t111.1 x3 fx4 (decide ((wrapI (x2 - t111.1))≥(wrapI ((wrapI (x2 - x1):Int).tdiv 8)))) (decide (t111.2.1=true)) t146))else((Zf.f t80.2 x1 x2 (wrapI ((wrapI (x2 - 1)) - (wrapI (t52.1 - x1)))) (fun z0 z1=>(fx4 z0 z1).map fun z=>z)).bind fun t103=>Za.l0 n t103.1 x2 x3 fx4 x10 x11 t103.2))else none)else none)else none)else none)else none)else none)else none)else none)else((Ze.f t80.2 x1 x2 (wrapI ((wrapI (x2 - 1)) - (wrapI (t52.1 - x1)))) (fun z0 z1=>(fx4 z0 z1).map fun z=>z)).bind fun t111=>if(wrapI (t111.1 - x1)) < (wrapI (x2 - t111.1))then((Za.f n t111.2.2 x1 t111.1 x3 (fun z0 z1=>(fx4 z0 z1).map fun z=>z)).bind fun t134=>Za.l0 n (wrapI (t111.1+1)) x2 x3 fx4 (decide ((wrapI (t111.1 - x1))≥(wrapI ((wrapI (x2 - x1):Int).tdiv 8)))) (decide (t111.2.1=true)) t134)else((Za.f n t111.2.2 (wrapI (t111.1+1)) x2 x3 (fun z0 z1=>(fx4 z0 z1).map fun z=>z)).bind fun t146=>Za.l0 n x1 t111.1 x3 fx4 (decide ((wrapI (x2 - t111.1))≥(wrapI ((wrapI (x2 - x1):Int).tdiv 8)))) (decide (t111.2.1=true)) t146))))else(if x1 > 0 then(if 0≤wrapI (x1 - 1)then(if wrapI (x1 - 1) < (t61.length:Int)then(if 0≤wrapI (x1 - 1)then(if wrapI (x1 - 1) < (t61.length:Int)then(if 0≤wrapI ((wrapI (x2 - 1)) - (wrapI (t52.1 - x1)))then(if wrapI ((wrapI (x2 - 1)) - (wrapI (t52.1 - x1))) < (t61.length:Int)then(if 0≤wrapI ((wrapI (x2 - 1)) - (wrapI (t52.1 - x1)))then(if wrapI ((wrapI (x2 - 1)) - (wrapI (t52.1 - x1))) < (t61.length:Int)then((fx4 (Ty.rd .raw t61 (wrapI (x1 - 1))) (Ty.rd .raw t61 (wrapI ((wrapI (x2 - 1)) - (wrapI (t52.1 - x1)))))).bind fun t94=>if t94 < 0 then((Ze.f t61 x1 x2 (wrapI ((wrapI (x2 - 1)) - (wrapI (t52.1 - x1)))) (fun z0 z1=>(fx4 z0 z1).map fun z=>z)).bind fun t111=>if(wrapI (t111.1 - x1)) < (wrapI (x2 - t111.1))then((Za.f n t111.2.2 x1 t111.1 x3 (fun z0 z1=>(fx4 z0 z1).map fun z=>z)).bind fun t134=>Za.l0 n (wrapI (t111.1+1)) x2 x3 fx4 (decide ((wrapI (t111.1 - x1))≥(wrapI ((wrapI (x2 - x1):Int).tdiv 8)))) (decide (t111.2.1=true)) t134)else((Za.f n t111.2.2 (wrapI (t111.1+1)) x2 x3 (fun z0 z1=>(fx4 z0 z1).map fun z=>z)).bind fun t146=>Za.l0 n x1 t111.1 x3 fx4 (decide ((wrapI (x2 - t111.1))≥(wrapI ((wrapI (x2 - x1):Int).tdiv 8)))) (decide (t111.2.1=true)) t146))else((Zf.f t61 x1 x2 (wrapI ((wrapI (x2 - 1)) - (wrapI (t52.1 - x1)))) (fun z0 z1=>(fx4 z0 z1).map fun z=>z)).bind fun t103=>Za.l0 n t103.1 x2 x3 fx4 x10 x11 t103.2))else none)else none)else none)else none)else none)else none)else none)else none)else((Ze.f t61 x1 x2 (wrapI ((wrapI (x2 - 1)) - (wrapI (t52.1 - x1)))) (fun z0 z1=>(fx4 z0 z1).map fun z=>z)).bind fun t111=>if(wrapI (t111.1 - x1)) < (wrapI (x2 - t111.1))then((Za.f n t111.2.2 x1 t111.1 x3 (fun z0 z1=>(fx4 z0 z1).map fun z=>z)).bind fun t134=>Za.l0 n (wrapI (t111.1+1)) x2 x3 fx4 (decide ((wrapI (t111.1 - x1))≥(wrapI ((wrapI (x2 - x1):Int).tdiv 8)))) (decide (t111.2.1=true)) t134)else((Za.f n t111.2.2 (wrapI (t111.1+1)) x2 x3 (fun z0 z1=>(fx4 z0 z1).map fun z=>z)).bind fun t146=>Za.l0 n x1 t111.1 x3 fx4 (decide ((wrapI (x2 - t111.1))≥(wrapI ((wrapI (x2 - x1):Int).tdiv 8)))) (decide (t111.2.1=true)) t146))))else(if x1 > 0 then(if 0≤wrapI (x1 - 1)then(if wrapI (x1 - 1) < (t61.length:Int)then(if 0≤wrapI (x1 - 1)then(if wrapI (x1 - 1) < (t61.length:Int)then(if 0≤wrapI ((wrapI (x2 - 1)) - (wrapI (t52.1 - x1)))then(if wrapI ((wrapI (x2 - 1)) - (wrapI (t52.1 - x1))) < (t61.length:Int)then(if 0≤wrapI ((wrapI (x2 - 1)) - (wrapI (t52.1 - x1)))then(if wrapI ((wrapI (x2 - 1)) - (wrapI (t52.1 - x1))) < (t61.length:Int)then((fx4 (Ty.rd .raw t61 (wrapI (x1 - 1))) (Ty.rd .raw t61 (wrapI ((wrapI (x2 - 1)) - (wrapI (t52.1 - x1)))))).bind fun t94=>if t94 < 0 then((Ze.f t61 x1 x2 (wrapI ((wrapI (x2 - 1)) - (wrapI (t52.1 - x1)))) (fun z0 z1=>(fx4 z0 z1).map fun z=>z)).bind fun t111=>if(wrapI (t111.1 - x1)) < (wrapI (x2 - t111.1))then((Za.f n t111.2.2 x1 t111.1 x3 (fun z0 z1=>(fx4 z0 z1).map fun z=>z)).bind fun t134=>Za.l0 n (wrapI (t111.1+1)) x2 x3 fx4 (decide ((wrapI (t111.1 - x1))≥(wrapI ((wrapI (x2 - x1):Int).tdiv 8)))) (decide (t111.2.1=true)) t134)else((Za.f n t111.2.2 (wrapI (t111.1+1)) x2 x3 (fun z0 z1=>(fx4 z0 z1).map fun z=>z)).bind fun t146=>Za.l0 n x1 t111.1 x3 fx4 (decide ((wrapI (x2 - t111.1))≥(wrapI ((wrapI (x2 - x1):Int).tdiv 8)))) (decide (t111.2.1=true)) t146))else((Zf.f t61 x1 x2 (wrapI ((wrapI (x2 - 1)) - (wrapI (t52.1 - x1)))) (fun z0 z1=>(fx4 z0 z1).map fun z=>z)).bind fun t103=>Za.l0 n t103.1 x2 x3 fx4 x10 x11 t103.2))else none)else none)else none)else none)else none)else none)else none)else none)else((Ze.f t61 x1 x2 (wrapI ((wrapI (x2 - 1)) - (wrapI (t52.1 - x1)))) (fun z0 z1=>(fx4 z0 z1).map fun z=>z)).bind fun t111=>if(wrapI (t111.1 - x1)) < (wrapI (x2 - t111.1))then((Za.f n t111.2.2 x1 t111.1 x3 (fun z0 z1=>(fx4 z0 z1).map fun z=>z)).bind fun t134=>Za.l0 n (wrapI (t111.1+1)) x2 x3 fx4 (decide ((wrapI (t111.1 - x1))≥(wrapI ((wrapI (x2 - x1):Int).tdiv 8)))) (decide (t111.2.1=true)) t134)else((Za.f n t111.2.2 (wrapI (t111.1+1)) x2 x3 (fun z0 z1=>(fx4 z0 z1).map fun z=>z)).bind fun t146=>Za.l0 n x1 t111.1 x3 fx4 (decide ((wrapI (x2 - t111.1))≥(wrapI ((wrapI (x2 - x1):Int).tdiv 8)))) (decide (t111.2.1=true)) t146))))else(if x10=true then(if x11=true then(if t52.2=1 then((Zd.f r0 x1 x2 (fun z0 z1=>(fx4 z0 z1).map fun z=>z)).bind fun t80=>if t80.1=true then(some t80.2)else(if x1 > 0 then(if 0≤wrapI (x1 - 1)then(if wrapI (x1 - 1) < (t80.2.length:Int)then(if 0≤wrapI (x1 - 1)then(if wrapI (x1 - 1) < (t80.2.length:Int)then(if 0≤t52.1 then(if t52.1 < (t80.2.length:Int)then(if 0≤t52.1 then(if t52.1 < (t80.2.length:Int)then((fx4 (Ty.rd .raw t80.2 (wrapI (x1 - 1))) (Ty.rd .raw t80.2 t52.1)).bind fun t94=>if t94 < 0 then((Ze.f t80.2 x1 x2 t52.1 (fun z0 z1=>(fx4 z0 z1).map fun z=>z)).bind fun t111=>if(wrapI (t111.1 - x1)) < (wrapI (x2 - t111.1))then((Za.f n t111.2.2 x1 t111.1 x3 (fun z0 z1=>(fx4 z0 z1).map fun z=>z)).bind fun t134=>Za.l0 n (wrapI (t111.1+1)) x2 x3 fx4 (decide ((wrapI (t111.1 - x1))≥(wrapI ((wrapI (x2 - x1):Int).tdiv 8)))) (decide (t111.2.1=true)) t134)else((Za.f n t111.2.2 (wrapI (t111.1+1)) x2 x3 (fun z0 z1=>(fx4 z0 z1).map fun z=>z)).bind fun t146=>Za.l0 n x1 t111.1 x3 fx4 (decide ((wrapI (x2 - t111.1))≥(wrapI ((wrapI (x2 - x1):Int).tdiv 8)))) (decide (t111.2.1=true)) t146))else((Zf.f t80.2 x1 x2 t52.1 (fun z0 z1=>(fx4 z0 z1).map fun z=>z)).bind fun t103=>Za.l0 n t103.1 x2 x3 fx4 x10 x11 t103.2))else none)else none)else none)else none)else none)else none)else none)else none)else((Ze.f t80.2 x1 x2 t52.1 (fun z0 z1=>(fx4 z0 z1).map fun z=>z)).bind fun t111=>if(wrapI (t111.1 - x1)) < (wrapI (x2 - t111.1))then((Za.f n t111.2.2 x1 t111.1 x3 (fun z0 z1=>(fx4 z0 z1).map fun z=>z)).bind fun t134=>Za.l0 n (wrapI (t111.1+1)) x2 x3 fx4 (decide ((wrapI (t111.1 - x1))≥(wrapI ((wrapI (x2 - x1):Int).tdiv 8)))) (decide (t111.2.1=true)) t134)else((Za.f n t111.2.2 (wrapI (t111.1+1)) x2 x3 (fun z0 z1=>(fx4 z0 z1).map fun z=>z)).bind fun t146=>Za.l0 n x1 t111.1 x3 fx4 (decide ((wrapI (x2 - t111.1))≥(wrapI ((wrapI (x2 - x1):Int).tdiv 8)))) (decide (t111.2.1=true)) t146))))else(if x1 > 0 then(if 0≤wrapI (x1 - 1)then(if wrapI (x1 - 1) < (r0.length:Int)then(if 0≤wrapI (x1 - 1)then(if wrapI (x1 - 1) < (r0.length:Int)then(if 0≤t52.1 then(if t52.1 < (r0.length:Int)then(if 0≤t52.1 then(if t52.1 < (r0.length:Int)then((fx4 (Ty.rd .raw r0 (wrapI (x1 - 1))) (Ty.rd .raw r0 t52.1)).bind fun t94=>if t94 < 0 then((Ze.f r0 x1 x2 t52.1 (fun z0 z1=>(fx4 z0 z1).map fun z=>z)).bind fun t111=>if(wrapI (t111.1 - x1)) < (wrapI (x2 - t111.1))then((Za.f n t111.2.2 x1 t111.1 x3 (fun z0 z1=>(fx4 z0 z1).map fun z=>z)).bind fun t134=>Za.l0 n (wrapI (t111.1+1)) x2 x3 fx4 (decide ((wrapI (t111.1 - x1))≥(wrapI ((wrapI (x2 - x1):Int).tdiv 8)))) (decide (t111.2.1=true)) t134)else((Za.f n t111.2.2 (wrapI (t111.1+1)) x2 x3 (fun z0 z1=>(fx4 z0 z1).map fun z=>z)).bind fun t146=>Za.l0 n x1 t111.1 x3 fx4 (decide ((wrapI (x2 - t111.1))≥(wrapI ((wrapI (x2 - x1):Int).tdiv 8)))) (decide (t111.2.1=true)) t146))else((Zf.f r0 x1 x2 t52.1 (fun z0 z1=>(fx4 z0 z1).map fun z=>z)).bind fun t103=>Za.l0 n t103.1 x2 x3 fx4 x10 x11 t103.2))else none)else none)else none)else none)else none)else none)else none)else none)else((Ze.f r0 x1 x2 t52.1 (fun z0 z1=>(fx4 z0 z1).map fun z=>z)).bind fun t111=>if(wrapI (t111.1 - x1)) < (wrapI (x2 - t111.1))then((Za.f n t111.2.2 x1 t111.1 x3 (fun z0 z1=>(fx4 z0 z1).map fun z=>z)).bind fun t134=>Za.l0 n (wrapI (t111.1+1)) x2 x3 fx4 (decide ((wrapI (t111.1 - x1))≥(wrapI ((wrapI (x2 - x1):Int).tdiv 8)))) (decide (t111.2.1=true)) t134)else((Za.f n t111.2.2 (wrapI (t111.1+1)) x2 x3 (fun z0 z1=>(fx4 z0 z1).map fun z=>z)).bind fun t146=>Za.l0 n x1 t111.1 x3 fx4 (decide ((wrapI (x2 - t111.1))≥(wrapI ((wrapI (x2 - x1):Int).tdiv 8)))) (decide (t111.2.1=true)) t146))))else(if x1 > 0 then(if 0≤wrapI (x1 - 1)then(if wrapI (x1 - 1) < (r0.length:Int)then(if 0≤wrapI (x1 - 1)then(if wrapI (x1 - 1) < (r0.length:Int)then(if 0≤t52.1 then(if t52.1 < (r0.length:Int)then(if 0≤t52.1 then(if t52.1 < (r0.length:Int)then((fx4 (Ty.rd .raw r0 (wrapI (x1 - 1))) (Ty.rd .raw r0 t52.1)).bind fun t94=>if t94 < 0 then((Ze.f r0 x1 x2 t52.1 (fun z0 z1=>(fx4 z0 z1).map fun z=>z)).bind fun t111=>if(wrapI (t111.1 - x1)) < (wrapI (x2 - t111.1))then((Za.f n t111.2.2 x1 t111.1 x3 (fun z0 z1=>(fx4 z0 z1).map fun z=>z)).bind fun t134=>Za.l0 n (wrapI (t111.1+1)) x2 x3 fx4 (decide ((wrapI (t111.1 - x1))≥(wrapI ((wrapI (x2 - x1):Int).tdiv 8)))) (decide (t111.2.1=true)) t134)else((Za.f n t111.2.2 (wrapI (t111.1+1)) x2 x3 (fun z0 z1=>(fx4 z0 z1).map fun z=>z)).bind fun t146=>Za.l0 n x1 t111.1 x3 fx4 (decide ((wrapI (x2 - t111.1))≥(wrapI ((wrapI (x2 - x1):Int).tdiv 8)))) (decide (t111.2.1=true)) t146))else((Zf.f r0 x1 x2 t52.1 (fun z0 z1=>(fx4 z0 z1).map fun z=>z)).bind fun t103=>Za.l0 n t103.1 x2 x3 fx4 x10 x11 t103.2))else none)else none)else none)else none)else none)else none)else none)else none)else((Ze.f r0 x1 x2 t52.1 (fun z0 z1=>(fx4 z0 z1).map fun z=>z)).bind fun t111=>if(wrapI (t111.1 - x1)) < (wrapI (x2 - t111.1))then((Za.f n t111.2.2 x1 t111.1 x3 (fun z0 z1=>(fx4 z0 z1).map fun z=>z)).bind fun t134=>Za.l0 n (wrapI (t111.1+1)) x2 x3 fx4 (decide ((wrapI (t111.1 - x1))≥(wrapI ((wrapI (x2 - x1):Int).tdiv 8)))) (decide (t111.2.1=true)) t134)else((Za.f n t111.2.2 (wrapI (t111.1+1)) x2 x3 (fun z0 z1=>(fx4 z0 z1).map fun z=>z)).bind fun t146=>Za.l0 n x1 t111.1 x3 fx4 (decide ((wrapI (x2 - t111.1))≥(wrapI ((wrapI (x2 - x1):Int).tdiv 8)))) (decide (t111.2.1=true)) t146))))else(if x1 > 0 then(if 0≤wrapI (x1 - 1)then(if wrapI (x1 - 1) < (r0.length:Int)then(if 0≤wrapI (x1 - 1)then(if wrapI (x1 - 1) < (r0.length:Int)then(if 0≤t52.1 then(if t52.1 < (r0.length:Int)then(if 0≤t52.1 then(if t52.1 < (r0.length:Int)then((fx4 (Ty.rd .raw r0 (wrapI (x1 - 1))) (Ty.rd .raw r0 t52.1)).bind fun t94=>if t94 < 0 then((Ze.f r0 x1 x2 t52.1 (fun z0 z1=>(fx4 z0 z1).map fun z=>z)).bind fun t111=>if(wrapI (t111.1 - x1)) < (wrapI (x2 - t111.1))then((Za.f n t111.2.2 x1 t111.1 x3 (fun z0 z1=>(fx4 z0 z1).map fun z=>z)).bind fun t134=>Za.l0 n (wrapI (t111.1+1)) x2 x3 fx4 (decide ((wrapI (t111.1 - x1))≥(wrapI ((wrapI (x2 - x1):Int).tdiv 8)))) (decide (t111.2.1=true)) t134)else((Za.f n t111.2.2 (wrapI (t111.1+1)) x2 x3 (fun z0 z1=>(fx4 z0 z1).map fun z=>z)).bind fun t146=>Za.l0 n x1 t111.1 x3 fx4 (decide ((wrapI (x2 - t111.1))≥(wrapI ((wrapI (x2 - x1):Int).tdiv 8)))) (decide (t111.2.1=true)) t146))else((Zf.f r0 x1 x2 t52.1 (fun z0 z1=>(fx4 z0 z1).map fun z=>z)).bind fun t103=>Za.l0 n t103.1 x2 x3 fx4 x10 x11 t103.2))else none)else none)else none)else none)else none)else none)else none)else none)else((Ze.f r0 x1 x2 t52.1 (fun z0 z1=>(fx4 z0 z1).map fun z=>z)).bind fun t111=>if(wrapI (t111.1 - x1)) < (wrapI (x2 - t111.1))then((Za.f n t111.2.2 x1 t111.1 x3 (fun z0 z1=>(fx4 z0 z1).map fun z=>z)).bind fun t134=>Za.l0 n (wrapI (t111.1+1)) x2 x3 fx4 (decide ((wrapI (t111.1 - x1))≥(wrapI ((wrapI (x2 - x1):Int).tdiv 8)))) (decide (t111.2.1=true)) t134)else((Za.f n t111.2.2 (wrapI (t111.1+1)) x2 x3 (fun z0 z1=>(fx4 z0 z1).map fun z=>z)).bind fun t146=>Za.l0 n x1 t111.1 x3 fx4 (decide ((wrapI (x2 - t111.1))≥(wrapI ((wrapI (x2 - x1):Int).tdiv 8)))) (decide (t111.2.1=true)) t146)))))else((Zo.f r0 x1 x2 (fun z0 z1=>(fx4 z0 z1).map fun z=>z)).bind fun t44=>(ZF.f t44 x1 x2 (fun z0 z1=>(fx4 z0 z1).map fun z=>z)).bind fun t52=>if t52.2=2 then((Zr.f t44 x1 x2 (fun z0 z1=>(fx4 z0 z1).map fun z=>z)).bind fun t61=>if x10=true then(if x11=true then((Zd.f t61 x1 x2 (fun z0 z1=>(fx4 z0 z1).map fun z=>z)).bind fun t80=>if t80.1=true then(some t80.2)else(if x1 > 0 then(if 0≤wrapI (x1 - 1)then(if wrapI (x1 - 1) < (t80.2.length:Int)then(if 0≤wrapI (x1 - 1)then(if wrapI (x1 - 1) < (t80.2.length:Int)then(if 0≤wrapI ((wrapI (x2 - 1)) - (wrapI (t52.1 - x1)))then(if wrapI ((wrapI (x2 - 1)) - (wrapI (t52.1 - x1))) < (t80.2.length:Int)then(if 0≤wrapI ((wrapI (x2 - 1)) - (wrapI (t52.1 - x1)))then(if wrapI ((wrapI (x2 - 1)) - (wrapI (t52.1 - x1))) < (t80.2.length:Int)then((fx4 (Ty.rd .raw t80.2 (wrapI (x1 - 1))) (Ty.rd .raw t80.2 (wrapI ((wrapI (x2 - 1)) - (wrapI (t52.1 - x1)))))).bind fun t94=>if t94 < 0 then((Ze.f t80.2 x1 x2 (wrapI ((wrapI (x2 - 1)) - (wrapI (t52.1 - x1)))) (fun z0 z1=>(fx4 z0 z1).map fun z=>z)).bind fun t111=>if(wrapI (t111.1 - x1)) < (wrapI (x2 - t111.1))then((Za.f n t111.2.2 x1 t111.1 (wrapI (x3 - 1)) (fun z0 z1=>(fx4 z0 z1).map fun z=>z)).bind fun t134=>Za.l0 n (wrapI (t111.1+1)) x2 (wrapI (x3 - 1)) fx4 (decide ((wrapI (t111.1 - x1))≥(wrapI ((wrapI (x2 - x1):Int).tdiv 8)))) (decide (t111.2.1=true)) t134)else((Za.f n t111.2.2 (wrapI (t111.1+1)) x2 (wrapI (x3 - 1)) (fun z0 z1=>(fx4 z0 z1).map fun z=>z)).bind fun t146=>Za.l0 n x1 t111.1 (wrapI (x3 - 1)) fx4 (decide ((wrapI (x2 - t111.1))≥(wrapI ((wrapI (x2 - x1):Int).tdiv 8)))) (decide (t111.2.1=true)) t146))else((Zf.f t80.2 x1 x2 (wrapI ((wrapI (x2 - 1)) - (wrapI (t52.1 - x1)))) (fun z0 z1=>(fx4 z0 z1).map fun z=>z)).bind fun t103=>Za.l0 n t103.1 x2 (wrapI (x3 - 1)) fx4 x10 x11 t103.2))else none)else none)else none)else none)else none)else none)else none)else none)else((Ze.f t80.2 x1 x2 (wrapI ((wrapI (x2 - 1)) - (wrapI (t52.1 - x1)))) (fun z0 z1=>(fx4 z0 z1).map fun z=>z)).bind fun t111=>if(wrapI (t111.1 - x1)) < (wrapI (x2 - t111.1))then((Za.f n t111.2.2 x1 t111.1 (wrapI (x3 - 1)) (fun z0 z1=>(fx4 z0 z1).map fun z=>z)).bind fun t134=>Za.l0 n (wrapI (t111.1+1)) x2 (wrapI (x3 - 1)) fx4 (decide ((wrapI (t111.1 - x1))≥(wrapI ((wrapI (x2 - x1):Int).tdiv 8)))) (decide (t111.2.1=true)) t134)else((Za.f n t111.2.2 (wrapI (t111.1+1)) x2 (wrapI (x3 - 1)) (fun z0 z1=>(fx4 z0 z1).map fun z=>z)).bind fun t146=>Za.l0 n x1 t111.1 (wrapI (x3 - 1)) fx4 (decide ((wrapI (x2 - t111.1))≥(wrapI ((wrapI (x2 - x1):Int).tdiv 8)))) (decide (t111.2.1=true)) t146))))else(if x1 > 0 then(if 0≤wrapI (x1 - 1)then(if wrapI (x1 - 1) < (t61.length:Int)then(if 0≤wrapI (x1 - 1)then(if wrapI (x1 - 1) < (t61.length:Int)then(if 0≤wrapI ((wrapI (x2 - 1)) - (wrapI (t52.1 - x1)))then(if wrapI ((wrapI (x2 - 1)) - (wrapI (t52.1 - x1))) < (t61.length:Int)then(if 0≤wrapI ((wrapI (x2 - 1)) - (wrapI (t52.1 - x1)))then(if wrapI ((wrapI (x2 - 1)) - (wrapI (t52.1 - x1))) < (t61.length:Int)then((fx4 (Ty.rd .raw t61 (wrapI (x1 - 1))) (Ty.rd .raw t61 (wrapI ((wrapI (x2 - 1)) - (wrapI (t52.1 - x1)))))).bind fun t94=>if t94 < 0 then((Ze.f t61 x1 x2 (wrapI ((wrapI (x2 - 1)) - (wrapI (t52.1 - x1)))) (fun z0 z1=>(fx4 z0 z1).map fun z=>z)).bind fun t111=>if(wrapI (t111.1 - x1)) < (wrapI (x2 - t111.1))then((Za.f n t111.2.2 x1 t111.1 (wrapI (x3 - 1)) (fun z0 z1=>(fx4 z0 z1).map fun z=>z)).bind fun t134=>Za.l0 n (wrapI (t111.1+1)) x2 (wrapI (x3 - 1)) fx4 (decide ((wrapI (t111.1 - x1))≥(wrapI ((wrapI (x2 - x1):Int).tdiv 8)))) (decide (t111.2.1=true)) t134)else((Za.f n t111.2.2 (wrapI (t111.1+1)) x2 (wrapI (x3 - 1)) (fun z0 z1=>(fx4 z0 z1).map fun z=>z)).bind fun t146=>Za.l0 n x1 t111.1 (wrapI (x3 - 1)) fx4 (decide ((wrapI (x2 - t111.1))≥(wrapI ((wrapI (x2 - x1):Int).tdiv 8)))) (decide (t111.2.1=true)) t146))else((Zf.f t61 x1 x2 (wrapI ((wrapI (x2 - 1)) - (wrapI (t52.1 - x1)))) (fun z0 z1=>(fx4 z0 z1).map fun z=>z)).bind fun t103=>Za.l0 n t103.1 x2 (wrapI (x3 - 1)) fx4 x10 x11 t103.2))else none)else none)else none)else none)else none)else none)else none)else none)else((Ze.f t61 x1 x2 (wrapI ((wrapI (x2 - 1)) - (wrapI (t52.1 - x1)))) (fun z0 z1=>(fx4 z0 z1).map fun z=>z)).bind fun t111=>if(wrapI (t111.1 - x1)) < (wrapI (x2 - t111.1))then((Za.f n t111.2.2 x1 t111.1 (wrapI (x3 - 1)) (fun z0 z1=>(fx4 z0 z1).map fun z=>z)).bind fun t134=>Za.l0 n (wrapI (t111.1+1)) x2 (wrapI (x3 - 1)) fx4 (decide ((wrapI (t111.1 - x1))≥(wrapI ((wrapI (x2 - x1):Int).tdiv 8)))) (decide (t111.2.1=true)) t134)else((Za.f n t111.2.2 (wrapI (t111.1+1)) x2 (wrapI (x3 - 1)) (fun z0 z1=>(fx4 z0 z1).map fun z=>z)).bind fun t146=>Za.l0 n x1 t111.1 (wrapI (x3 - 1)) fx4 (decide ((wrapI (x2 - t111.1))≥(wrapI ((wrapI (x2 - x1):Int).tdiv 8)))) (decide (t111.2.1=true)) t146))))else(if x1 > 0 then(if 0≤wrapI (x1 - 1)then(if wrapI (x1 - 1) < (t61.length:Int)then(if 0≤wrapI (x1 - 1)then(if wrapI (x1 - 1) < (t61.length:Int)then(if 0≤wrapI ((wrapI (x2 - 1)) - (wrapI (t52.1 - x1)))then(if wrapI ((wrapI (x2 - 1)) - (wrapI (t52.1 - x1))) < (t61.length:Int)then(if 0≤wrapI ((wrapI (x2 - 1)) - (wrapI (t52.1 - x1)))then(if wrapI ((wrapI (x2 - 1)) - (wrapI (t52.1 - x1))) < (t61.length:Int)then((fx4 (Ty.rd .raw t61 (wrapI (x1 - 1))) (Ty.rd .raw t61 (wrapI ((wrapI (x2 - 1)) - (wrapI (t52.1 - x1)))))).bind fun t94=>if t94 < 0 then((Ze.f t61 x1 x2 (wrapI ((wrapI (x2 - 1)) - (wrapI (t52.1 - x1)))) (fun z0 z1=>(fx4 z0 z1).map fun z=>z)).bind fun t111=>if(wrapI (t111.1 - x1)) < (wrapI (x2 - t111.1))then((Za.f n t111.2.2 x1 t111.1 (wrapI (x3 - 1)) (fun z0 z1=>(fx4 z0 z1).map fun z=>z)).bind fun t134=>Za.l0 n (wrapI (t111.1+1)) x2 (wrapI (x3 - 1)) fx4 (decide ((wrapI (t111.1 - x1))≥(wrapI ((wrapI (x2 - x1):Int).tdiv 8)))) (decide (t111.2.1=true)) t134)else((Za.f n t111.2.2 (wrapI (t111.1+1)) x2 (wrapI (x3 - 1)) (fun z0 z1=>(fx4 z0 z1).map fun z=>z)).bind fun t146=>Za.l0 n x1 t111.1 (wrapI (x3 - 1)) fx4 (decide ((wrapI (x2 - t111.1))≥(wrapI ((wrapI (x2 - x1):Int).tdiv 8)))) (decide (t111.2.1=true)) t146))else((Zf.f t61 x1 x2 (wrapI ((wrapI (x2 - 1)) - (wrapI (t52.1 - x1)))) (fun z0 z1=>(fx4 z0 z1).map fun z=>z)).bind fun t103=>Za.l0 n t103.1 x2 (wrapI (x3 - 1)) fx4 x10 x11 t103.2))else none)else none)else none)else none)else none)else none)else none)else none)else((Ze.f t61 x1 x2 (wrapI ((wrapI (x2 - 1)) - (wrapI (t52.1 - x1)))) (fun z0 z1=>(fx4 z0 z1).map fun z=>z)).bind fun t111=>if(wrapI (t111.1 - x1)) < (wrapI (x2 - t111.1))then((Za.f n t111.2.2 x1 t111.1 (wrapI (x3 - 1)) (fun z0 z1=>(fx4 z0 z1).map fun z=>z)).bind fun t134=>Za.l0 n (wrapI (t111.1+1)) x2 (wrapI (x3 - 1)) fx4 (decide ((wrapI (t111.1 - x1))≥(wrapI ((wrapI (x2 - x1):Int).tdiv 8)))) (decide (t111.2.1=true)) t134)else((Za.f n t111.2.2 (wrapI (t111.1+1)) x2 (wrapI (x3 - 1)) (fun z0 z1=>(fx4 z0 z1).map fun z=>z)).bind fun t146=>Za.l0 n x1 t111.1 (wrapI (x3 - 1)) fx4 (decide ((wrapI (x2 - t111.1))≥(wrapI ((wrapI (x2 - x1):Int).tdiv 8)))) (decide (t111.2.1=true)) t146))))else(if x10=true then(if x11=true then(if t52.2=1 then((Zd.f t44 x1 x2 (fun z0 z1=>(fx4 z0 z1).map fun z=>z)).bind fun t80=>if t80.1=true then(some t80.2)else(if x1 > 0 then(if 0≤wrapI (x1 - 1)then(if wrapI (x1 - 1) < (t80.2.length:Int)then(if 0≤wrapI (x1 - 1)then(if wrapI (x1 - 1) < (t80.2.length:Int)then(if 0≤t52.1 then(if t52.1 < (t80.2.length:Int)then(if 0≤t52.1 then(if t52.1 < (t80.2.length:Int)then((fx4 (Ty.rd .raw t80.2 (wrapI (x1 - 1))) (Ty.rd .raw t80.2 t52.1)).bind fun t94=>if t94 < 0 then((Ze.f t80.2 x1 x2 t52.1 (fun z0 z1=>(fx4 z0 z1).map fun z=>z)).bind fun t111=>if(wrapI (t111.1 - x1)) < (wrapI (x2 - t111.1))then((Za.f n t111.2.2 x1 t111.1 (wrapI (x3 - 1)) (fun z0 z1=>(fx4 z0 z1).map fun z=>z)).bind fun t134=>Za.l0 n (wrapI (t111.1+1)) x2 (wrapI (x3 - 1)) fx4 (decide ((wrapI (t111.1 - x1))≥(wrapI ((wrapI (x2 - x1):Int).tdiv 8)))) (decide (t111.2.1=true)) t134)else((Za.f n t111.2.2 (wrapI (t111.1+1)) x2 (wrapI (x3 - 1)) (fun z0 z1=>(fx4 z0 z1).map fun z=>z)).bind fun t146=>Za.l0 n x1 t111.1 (wrapI (x3 - 1)) fx4 (decide ((wrapI (x2 - t111.1))≥(wrapI ((wrapI (x2 - x1):Int).tdiv 8)))) (decide (t111.2.1=true)) t146))else((Zf.f t80.2 x1 x2 t52.1 (fun z0 z1=>(fx4 z0 z1).map fun z=>z)).bind fun t103=>Za.l0 n t103.1 x2 (wrapI (x3 - 1)) fx4 x10 x11 t103.2))else none)else none)else none)else none)else none)else none)else none)else none)else((Ze.f t80.2 x1 x2 t52.1 (fun z0 z1=>(fx4 z0 z1).map fun z=>z)).bind fun t111=>if(wrapI (t111.1 - x1)) < (wrapI (x2 - t111.1))then((Za.f n t111.2.2 x1 t111.1 (wrapI (x3 - 1)) (fun z0 z1=>(fx4 z0 z1).map fun z=>z)).bind fun t134=>Za.l0 n (wrapI (t111.1+1)) x2 (wrapI (x3 - 1)) fx4 (decide ((wrapI (t111.1 - x1))≥(wrapI ((wrapI (x2 - x1):Int).tdiv 8)))) (decide (t111.2.1=true)) t134)else((Za.f n t111.2.2 (wrapI (t111.1+1)) x2 (wrapI (x3 - 1)) (fun z0 z1=>(fx4 z0 z1).map fun z=>z)).bind fun t146=>Za.l0 n x1 t111.1 (wrapI (x3 - 1)) fx4 (decide ((wrapI (x2 - t111.1))≥(wrapI ((wrapI (x2 - x1):Int).tdiv 8)))) (decide (t111.2.1=true)) t146))))else(if x1 > 0 then(if 0≤wrapI (x1 - 1)then(if wrapI (x1 - 1) < (t44.length:Int)then(if 0≤wrapI (x1 - 1)then(if wrapI (x1 - 1) < (t44.length:Int)then(if 0≤t52.1 then(if t52.1 < (t44.length:Int)then(if 0≤t52.1 then(if t52.1 < (t44.length:Int)then((fx4 (Ty.rd .raw t44 (wrapI (x1 - 1))) (Ty.rd .raw t44 t52.1)).bind fun t94=>if t94 < 0 then((Ze.f t44 x1 x2 t52.1 (fun z0 z1=>(fx4 z0 z1).map fun z=>z)).bind fun t111=>if(wrapI (t111.1 - x1)) < (wrapI (x2 - t111.1))then((Za.f n t111.2.2 x1 t111.1 (wrapI (x3 - 1)) (fun z0 z1=>(fx4 z0 z1).map fun z=>z)).bind fun t134=>Za.l0 n (wrapI (t111.1+1)) x2 (wrapI (x3 - 1)) fx4 (decide ((wrapI (t111.1 - x1))≥(wrapI ((wrapI (x2 - x1):Int).tdiv 8)))) (decide (t111.2.1=true)) t134)else((Za.f n t111.2.2 (wrapI (t111.1+1)) x2 (wrapI (x3 - 1)) (fun z0 z1=>(fx4 z0 z1).map fun z=>z)).bind fun t146=>Za.l0 n x1 t111.1 (wrapI (x3 - 1)) fx4 (decide ((wrapI (x2 - t111.1))≥(wrapI ((wrapI (x2 - x1):Int).tdiv 8)))) (decide (t111.2.1=true)) t146))else((Zf.f t44 x1 x2 t52.1 (fun z0 z1=>(fx4 z0 z1).map fun z=>z)).bind fun t103=>Za.l0 n t103.1 x2 (wrapI (x3 - 1)) fx4 x10 x11 t103.2))else none)else none)else none)else none)else none)else none)else none)else none)else((Ze.f t44 x1 x2 t52.1 (fun z0 z1=>(fx4 z0 z1).map fun z=>z)).bind fun t111=>if(wrapI (t111.1 - x1)) < (wrapI (x2 - t111.1))then((Za.f n t111.2.2 x1 t111.1 (wrapI (x3 - 1)) (fun z0 z1=>(fx4 z0 z1).map fun z=>z)).bind fun t134=>Za.l0 n (wrapI (t111.1+1)) x2 (wrapI (x3 - 1)) fx4 (decide ((wrapI (t111.1 - x1))≥(wrapI ((wrapI (x2 - x1):Int).tdiv 8)))) (decide (t111.2.1=true)) t134)else((Za.f n t111.2.2 (wrapI (t111.1+1)) x2 (wrapI (x3 - 1)) (fun z0 z1=>(fx4 z0 z1).map fun z=>z)).bind fun t146=>Za.l0 n x1 t111.1 (wrapI (x3 - 1)) fx4 (decide ((wrapI (x2 - t111.1))≥(wrapI ((wrapI (x2 - x1):Int).tdiv 8)))) (decide (t111.2.1=true)) t146))))else(if x1 > 0 then(if 0≤wrapI (x1 - 1)then(if wrapI (x1 - 1) < (t44.length:Int)then(if 0≤wrapI (x1 - 1)then(if wrapI (x1 - 1) < (t44.length:Int)then(if 0≤t52.1 then(if t52.1 < (t44.length:Int)then(if 0≤t52.1 then(if t52.1 < (t44.length:Int)then((fx4 (Ty.rd .raw t44 (wrapI (x1 - 1))) (Ty.rd .raw t44 t52.1)).bind fun t94=>if t94 < 0 then((Ze.f t44 x1 x2 t52.1 (fun z0 z1=>(fx4 z0 z1).map fun z=>z)).bind fun t111=>if(wrapI (t111.1 - x1)) < (wrapI (x2 - t111.1))then((Za.f n t111.2.2 x1 t111.1 (wrapI (x3 - 1)) (fun z0 z1=>(fx4 z0 z1).map fun z=>z)).bind fun t134=>Za.l0 n (wrapI (t111.1+1)) x2 (wrapI (x3 - 1)) fx4 (decide ((wrapI (t111.1 - x1))≥(wrapI ((wrapI (x2 - x1):Int).tdiv 8)))) (decide (t111.2.1=true)) t134)else((Za.f n t111.2.2 (wrapI (t111.1+1)) x2 (wrapI (x3 - 1)) (fun z0 z1=>(fx4 z0 z1).map fun z=>z)).bind fun t146=>Za.l0 n x1 t111.1 (wrapI (x3 - 1)) fx4 (decide ((wrapI (x2 - t111.1))≥(wrapI ((wrapI (x2 - x1):Int).tdiv 8)))) (decide (t111.2.1=true)) t146))else((Zf.f t44 x1 x2 t52.1 (fun z0 z1=>(fx4 z0 z1).map fun z=>z)).bind fun t103=>Za.l0 n t103.1 x2 (wrapI (x3 - 1)) fx4 x10 x11 t103.2))else none)else none)else none)else none)else none)else none)else none)else none)else((Ze.f t44 x1 x2 t52.1 (fun z0 z1=>(fx4 z0 z1).map fun z=>z)).bind fun t111=>if(wrapI (t111.1 - x1)) < (wrapI (x2 - t111.1))then((Za.f n t111.2.2 x1 t111.1 (wrapI (x3 - 1)) (fun z0 z1=>(fx4 z0 z1).map fun z=>z)).bind fun t134=>Za.l0 n (wrapI (t111.1+1)) x2 (wrapI (x3 - 1)) fx4 (decide ((wrapI (t111.1 - x1))≥(wrapI ((wrapI (x2 - x1):Int).tdiv 8)))) (decide (t111.2.1=true)) t134)else((Za.f n t111.2.2 (wrapI (t111.1+1)) x2 (wrapI (x3 - 1)) (fun z0 z1=>(fx4 z0 z1).map fun z=>z)).bind fun t146=>Za.l0 n x1 t111.1 (wrapI (x3 - 1)) fx4 (decide ((wrapI (x2 - t111.1))≥(wrapI ((wrapI (x2 - x1):Int).tdiv 8)))) (decide (t111.2.1=true)) t146))))else(if x1 > 0 then(if 0≤wrapI (x1 - 1)then(if wrapI (x1 - 1) < (t44.length:Int)then(if 0≤wrapI (x1 - 1)then(if wrapI (x1 - 1) < (t44.length:Int)then(if 0≤t52.1 then(if t52.1 < (t44.length:Int)then(if 0≤t52.1 then(if t52.1 < (t44.length:Int)then((fx4 (Ty.rd .raw t44 (wrapI (x1 - 1))) (Ty.rd .raw t44 t52.1)).bind fun t94=>if t94 < 0 then((Ze.f t44 x1 x2 t52.1 (fun z0 z1=>(fx4 z0 z1).map fun z=>z)).bind fun t111=>if(wrapI (t111.1 - x1)) < (wrapI (x2 - t111.1))then((Za.f n t111.2.2 x1 t111.1 (wrapI (x3 - 1)) (fun z0 z1=>(fx4 z0 z1).map fun z=>z)).bind fun t134=>Za.l0 n (wrapI (t111.1+1)) x2 (wrapI (x3 - 1)) fx4 (decide ((wrapI (t111.1 - x1))≥(wrapI ((wrapI (x2 - x1):Int).tdiv 8)))) (decide (t111.2.1=true)) t134)else((Za.f n t111.2.2 (wrapI (t111.1+1)) x2 (wrapI (x3 - 1)) (fun z0 z1=>(fx4 z0 z1).map fun z=>z)).bind fun t146=>Za.l0 n x1 t111.1 (wrapI (x3 - 1)) fx4 (decide ((wrapI (x2 - t111.1))≥(wrapI ((wrapI (x2 - x1):Int).tdiv 8)))) (decide (t111.2.1=true)) t146))else((Zf.f t44 x1 x2 t52.1 (fun z0 z1=>(fx4 z0 z1).map fun z=>z)).bind fun t103=>Za.l0 n t103.1 x2 (wrapI (x3 - 1)) fx4 x10 x11 t103.2))else none)else none)else none)else none)else none)else none)else none)else none)else((Ze.f t44 x1 x2 t52.1 (fun z0 z1=>(fx4 z0 z1).map fun z=>z)).bind fun t111=>if(wrapI (t111.1 - x1)) < (wrapI (x2 - t111.1))then((Za.f n t111.2.2 x1 t111.1 (wrapI (x3 - 1)) (fun z0 z1=>(fx4 z0 z1).map fun z=>z)).bind fun t134=>Za.l0 n (wrapI (t111.1+1)) x2 (wrapI (x3 - 1)) fx4 (decide ((wrapI (t111.1 - x1))≥(wrapI ((wrapI (x2 - x1):Int).tdiv 8)))) (decide (t111.2.1=true)) t134)else((Za.f n t111.2.2 (wrapI (t111.1+1)) x2 (wrapI (x3 - 1)) (fun z0 z1=>(fx4 z0 z1).map fun z=>z)).bind fun t146=>Za.l0 n x1 t111.1 (wrapI (x3 - 1)) fx4 (decide ((wrapI (x2 - t111.1))≥(wrapI ((wrapI (x2 - x1):Int).tdiv 8)))) (decide (t111.2.1=true)) t146))))))):=(Zv _ _ _ _).trans (by kernel_rfl)
theorem Za.vn:∀n,Valid Tryz.prog 245 (Za.cn n)
 | 0=>Zfc ⟨_,Tryz.func245,by kernel_rfl,by kernel_rfl⟩
 | n+1=>Zey (f:=Za.fn) (E:=Za.E (Za.cn n)) (enc:=Za.enc) ⟨ttOk,(Zs (Za.vn n) (Zs Zg.valid (Zs Zm.valid (Zs ZF.valid (Zs Zr.valid (Zs Zd.valid (Zs Ze.valid (Zs Zf.valid (Zs Zo.valid Zaq)))))))))⟩ (Checked.mixed Tryz.checked) ⟨Tryz.func245,by kernel_rfl,by kernel_rfl,by kernel_rfl,by kernel_rfl,of_decide_eq_true (by kernel_rfl),by kernel_rfl,by kernel_rfl⟩ (fun _=>rfl)
noncomputable def Za.con:Con:=Za.cn fuel
theorem Za.valid:Valid Tryz.prog 245 Za.con:=Za.vn fuel
end Go.Proofs.YthmcpmnhdbeahaaGreat.R
namespace Go.Proofs.YthmcpmnhdbeahaaGreat.R
open Go Go.RowKit Go.Proofs.YthmcpmnhdbeahaaGreat.D
noncomputable def ZC.E:Env:={ tt:=TT,con:=[(177,bits_Len.con),(245,Za.con)],frz:=[],rows:=[],live:=[],n:=14,pin:=1,nils:=[] }
noncomputable def ZC.fn:D.Fn:={ body:=Tryz.f179.body.getD .skip,res:=Tryz.f179.results.toList,ins:=[.one (.own 27 true .raw),.one (.fn [.raw,.raw] (.int .i64))],outs:=[] }
def ZC.enc (y:lsd (flats ZC.fn.outs)×lsd (ios ZC.fn.ins)):(List Value):=y.2.1
noncomputable def ZC.f (l0:List Value) (f1:Value→Value→Option Int):Option (List Value):=denF ZC.E ZC.fn ZC.enc (l0,fun x=>f1 x.1 x.2.1,())
theorem ZC.f_eq (l0:List Value) (f1:Value→Value→Option Int):ZC.f l0 f1=(bits_Len.f (wr .u64 (l0.length:Int))).bind fun t11=>(Za.f fuel l0 0 (l0.length:Int) t11 (fun z0 z1=>(f1 z0 z1).map fun z=>z)).bind fun t13=>some t13:=by kernel_rfl
noncomputable def ZC.con:Con:=⟨ZC.fn.ins,ZC.fn.outs,(List Value),fun x=>ZC.f x.1 (fun z0 z1=>x.2.1 (z0,z1,())),fun r=>((()),(r,()))⟩
theorem ZC.valid:Valid Tryz.prog 179 ZC.con:=fnV ZC.fn ZC.E ZC.enc ⟨ttOk,(Zs bits_Len.valid (Zs Za.valid Zaq))⟩ Tryz.func179
end Go.Proofs.YthmcpmnhdbeahaaGreat.R
namespace Go.Proofs.YthmcpmnhdbeahaaGreat.D
open Go Go.RowKit
def hd (hs:List Value) (i:Nat):Value:=hs.getD i (.slice none 0 0)
def ct (xs:List (List Int)) (i:Nat):List Int:=xs.getD i []
theorem Zfl {hs:List Value} {i:Nat} (h:i < hs.length):hs[i]? = some (hd hs i):=by
 unfold hd
 rw[List.getD_eq_getElem?_getD,List.getElem?_eq_getElem h]
 rfl
theorem Zdx {xs:List (List Int)} {i:Nat} (h:i < xs.length):xs[i]? = some (ct xs i):=by
 unfold ct
 rw[List.getD_eq_getElem?_getD,List.getElem?_eq_getElem h]
 rfl
def Sel (hs:List Value) (xs:List (List Int)) (hs' : List Value) (ys:List (List Int)):Prop:=∃sel:List Nat,sel.Nodup∧(∀i∈sel,i < xs.length)∧hs' = sel.map (hd hs)∧ys=sel.map (ct xs)
section
variable {P:Program} {Z:Nat→Prop} {w:World}
structure Parts (w:World) (e e' : TypeId) (k:IntKind) (hdr:Value) (xs:List (List Int)) (F:Nat→Prop) (hs:List Value) (Fs:Nat→Nat→Prop):Prop where
 len:hs.length=xs.length
 raw:∀Z:Nat→Prop,Zb1 w e 1 (Rep Z w true .raw) hdr hs (fun b=>hdr.ownBlock=some b)
 el:∀i,i < xs.length→Zb1 w e' 1 (Rep (fun _=>False) w true (.int k)) (hd hs i) (ct xs i) (Fs i)∧NilOk e' (ct xs i).length (hd hs i)
 one:∀i,i < xs.length→(hd hs i).oneCell' = true
 sub:∀i b,Fs i b→i < xs.length∧F b∧hdr.ownBlock≠some b
 dis:∀i j b,i≠j→Fs i b→¬ Fs j b
 own:∀b,hdr.ownBlock=some b→F b
theorem parts {e e' : TypeId} {k:IntKind} {hdr:Value} {xs:List (List Int)} {F:Nat→Prop} (h:Zb1 w e 1 (Rep Z w true (.sl e' (.int k))) hdr xs F):∃hs Fs,Parts w e e' k hdr xs F hs Fs:=by
 obtain⟨inner,ho,hb,Fs,hel,hsub,hd0⟩:=h
 have hl:inner.length=xs.length:=by have:=ho.1;omega
 have one:∀i,i < xs.length→(inner.drop (i*1)).take 1=[hd inner i]:=fun i hi=>by
  rw[Nat.mul_one]
  have e:inner[i]'(by omega)=hd inner i:=Option.some.inj ((List.getElem?_eq_getElem (by omega)).symm.trans (Zfl (hs:=inner) (i:=i) (by omega)))
  rw[List.drop_eq_getElem_cons (by omega:i < inner.length),e]
  rfl
 have el:∀i,i < xs.length→Zb1 w e' 1 (Rep Z w true (.int k)) (hd inner i) (ct xs i) (Fs i)∧NilOk e' (ct xs i).length (hd inner i):=fun i hi=>by
  obtain⟨h1,h2,h3,h4⟩:=hel i _ (Zdx hi)
  rw[one i hi]at h2
  cases h2
  exact⟨h3,h4⟩
 refine⟨inner,fun i b=>i < xs.length∧Fs i b,hl,fun Z2=>⟨inner,by rw[hl];exact ho,fun b hb' => hb', fun _ _=>False,fun j p hp => ?_,fun _ _ h=>h.elim,fun _ _ _ _ h=>h.elim⟩,fun i hi => ?_,fun i hi => ?_,fun i b hb' => ⟨hb'.1,hsub i b hb'.2⟩,fun i j b hij h1 h2=>hd0 i j b hij h1.2 h2.2,hb⟩
 ·
  have hj:j < xs.length:=by have:=(List.getElem?_eq_some_iff.1 hp).1;omega
  have e:=Zfl (hs:=inner) (i:=j) (by omega)
  rw[hp]at e
  cases e
  obtain⟨⟨inner2,h1,_⟩,_⟩:=el j hj
  exact⟨one j hj,Zc8 h1⟩
 ·
  obtain⟨h1,h2⟩:=el i hi
  exact⟨Zb1.imp h1 (fun b hb' => ⟨hi,hb'⟩) (fun _ _=>rfl) fun p cs G _ hp=>hp,h2⟩
 ·
  obtain⟨⟨inner2,h1,_⟩,_⟩:=el i hi
  exact Zc8 h1
theorem unparts {e e' : TypeId} {k:IntKind} {hdr hdr' : Value} {xs:List (List Int)} {F Fr:Nat→Prop} {hs hs' : List Value} {Fs:Nat→Nat→Prop} {w' : World} {Z Z2:Nat→Prop} (h:Parts w e e' k hdr xs F hs Fs) (hsm:∀i b,Fs i b→w'.heap[b]? = w.heap[b]?)
  (hr:Zb1 w' e 1 (Rep Z2 w' true .raw) hdr' hs' Fr) (hdis:∀i b,Fs i b→¬ Fr b) {sel:List Nat} (hnd:sel.Nodup) (hlt:∀i∈sel,i < xs.length) (hsel:hs' = sel.map (hd hs)) :
  Zb1 w' e 1 (Rep Z w' true (.sl e' (.int k))) hdr' (sel.map (ct xs)) (fun b=>Fr b∨∃i∈sel,Fs i b):=by
 obtain⟨inner,ho,hb,Fs2,hel,hsub,hd0⟩:=hr
 have hlen:hs'.length=(sel.map (ct xs)).length:=by rw[hsel,List.length_map,List.length_map]
 refine⟨inner,by rw[←hlen];exact ho,fun b hb' => .inl (hb b hb'),fun j b=>∃i,sel[j]? = some i∧Fs i b,fun j p hp => ?_,fun j b hb' => ?_,fun j j2 b hne h1 h2 => ?_⟩
 ·
  rw[List.getElem?_map]at hp
  cases hi:sel[j]? with
  | none=>rw[hi]at hp;cases hp
  | some i =>
   rw[hi]at hp
   cases hp
   have hm:i < xs.length:=hlt i (List.mem_of_getElem? hi)
   have h1:=hel j (hd hs i) (by rw[hsel,List.getElem?_map,hi];rfl)
   have h1:(inner.drop (j*1)).take 1=[hd hs i]∧_:=h1
   obtain⟨k1,k2⟩:=h.el i hm
   refine⟨hd hs i,h1.1,?_,k2⟩
   exact Zb1.imp k1 (fun b hb' => ⟨i,hi,hb'⟩) (fun b hb' => hsm i b hb') fun p cs G _ hp=>hp
 ·
  obtain⟨i,hi,hF⟩:=hb'
  exact⟨.inr ⟨i,List.mem_of_getElem? hi,hF⟩,fun e=>hdis i b hF (hb b e)⟩
 ·
  obtain⟨i,hi,hF⟩:=h1
  obtain⟨i2,hi2,hF2⟩:=h2
  by_cases e:i=i2
  ·
   subst e
   have hj:=(List.getElem?_eq_some_iff.1 hi).1
   exact hne ((List.getElem?_inj hj hnd).1 (hi.trans hi2.symm))
  ·
   exact h.dis i i2 b e hF hF2
theorem Parts.view {e e' : TypeId} {k:IntKind} {hdr:Value} {xs:List (List Int)} {F:Nat→Prop} {hs:List Value} {Fs:Nat→Nat→Prop} (h:Parts w e e' k hdr xs F hs Fs) {w1:World} (hsm:∀i b,Fs i b→w1.heap[b]? = w.heap[b]?) {i:Nat} (hi:i < xs.length) :
  Rep (fun b=>∃i,Fs i b) w1 false (.sl e' (.int k)) (ct xs i) [hd hs i] fun _=>False:=by
 obtain⟨k1,k2⟩:=h.el i hi
 have k3:Rep (fun _=>False) w1 true (.sl e' (.int k)) (ct xs i) [hd hs i] (Fs i):=⟨hd hs i,rfl,Zb1.imp k1 (fun _ h=>h) (fun b hb=>hsm i b hb) fun p cs G _ hp=>hp,k2⟩
 exact Rep.imp _ (Rep.view _ (fun _=>False) k3) (fun b hb=>hb.elim (fun h=>h.elim) fun h=>⟨i,h⟩) (fun _ h=>h) (fun _ _=>rfl) (fun _ _=>rfl)
theorem Parts.same {e e' : TypeId} {k:IntKind} {hdr:Value} {xs:List (List Int)} {F:Nat→Prop} {hs:List Value} {Fs:Nat→Nat→Prop} (h:Parts w e e' k hdr xs F hs Fs) {i j:Nat} (hi:i < xs.length) (hj:j < xs.length) (he:hd hs i=hd hs j):ct xs i=ct xs j:=by
 obtain⟨⟨in1,o1,b1,G1,e1,_,_⟩,_⟩:=h.el i hi
 obtain⟨⟨in2,o2,b2,G2,e2,_,_⟩,_⟩:=h.el j hj
 rw[←he]at o2 b2
 by_cases hij:i=j
 ·
  rw[hij]
 have nil:∀{v:Value} {n m:Nat} {a b:List Value},(v = .slice none 0 0∧n=0)→w.ownsRow 0 e' 1 v m b→m=0:=fun {v n m a b} h1 h2=>by
  rcases h2.2 with h|⟨g,cap,cur,h,_⟩
  ·
   exact h.2
  ·
   rw[h1.1]at h;cases h
 rcases o1.2 with q1|⟨g1,cap1,cur1,q1,_⟩
 ·
  have n1:(ct xs i).length=0:=q1.2
  have n2:(ct xs j).length=0:=nil (a:=in1) q1 o2
  rw[List.length_eq_zero_iff.1 n1,List.length_eq_zero_iff.1 n2]
 ·
  have f1:=b1 g1 (by rw[q1];rfl)
  have f2:=b2 g1 (by rw[q1];rfl)
  exact absurd f2 (h.dis i j g1 hij f1)
noncomputable def cont (hs:List Value) (xs:List (List Int)) (v:Value):Option (List Int):=(hs.findIdx? fun u => @decide (u=v) (Classical.propDecidable _)).map (ct xs)
theorem Parts.cont {e e' : TypeId} {k:IntKind} {hdr:Value} {xs:List (List Int)} {F:Nat→Prop} {hs:List Value} {Fs:Nat→Nat→Prop} (h:Parts w e e' k hdr xs F hs Fs) {i:Nat} (hi:i < xs.length):D.cont hs xs (hd hs i)=some (ct xs i):=by
 have hl:=h.len
 unfold D.cont
 cases hf:hs.findIdx? (fun u => @decide (u=hd hs i) (Classical.propDecidable _))with
 | none =>
  rw[List.findIdx?_eq_none_iff]at hf
  have:=hf (hd hs i) (List.mem_of_getElem? (Zfl (by omega)))
  simp at this
 | some j =>
  rw[List.findIdx?_eq_some_iff_getElem]at hf
  obtain⟨hj,h1,_⟩:=hf
  have e:hd hs j=hd hs i:=by
   have h2:hs[j]=hd hs j:=Option.some.inj ((List.getElem?_eq_getElem hj).symm.trans (Zfl hj))
   rw[←h2]
   simpa using h1
  show some (ct xs j)=_
  rw[h.same (by omega) hi e]
theorem ZfI {hs:List Value} {xs:List (List Int)} (hl:hs.length=xs.length) {v:Value} {c:List Int} (h:cont hs xs v=some c):∃i,i < xs.length∧hd hs i=v∧ct xs i=c:=by
 unfold cont at h
 cases hf:hs.findIdx? (fun u => @decide (u=v) (Classical.propDecidable _))with
 | none=>rw[hf]at h;cases h
 | some j =>
  rw[hf]at h
  cases h
  rw[List.findIdx?_eq_some_iff_getElem]at hf
  obtain⟨hj,h1,_⟩:=hf
  have h2:hs[j]=hd hs j:=Option.some.inj ((List.getElem?_eq_getElem hj).symm.trans (Zfl hj))
  exact⟨j,by omega,by rw[←h2];simpa using h1,rfl⟩
end
def Good2 {β : Type} (f:List Value→(Value→Value→Option β)→Option (List Value)) (xs:List (List Int)) (c:List Int→List Int→Option β) (ys:List (List Int)):Prop :=
 ∀(hs:List Value) (c' : Value→Value→Option β),hs.length=xs.length→(∀i j,i < xs.length→j < xs.length→c' (hd hs i) (hd hs j)=c (ct xs i) (ct xs j))→∃hs', f hs c' = some hs' ∧ Sel hs xs hs' ys
noncomputable def G2 {β : Type} (f:List Value→(Value→Value→Option β)→Option (List Value)) (xs:List (List Int)) (c:List Int→List Int→Option β):Option (List (List Int)):=open Classical in if h:∃ys,Good2 f xs c ys then some (Classical.choose h)else none
def Good1 {β : Type} (f:List Value→(Value→Option β)→Option (List Value)) (xs:List (List Int)) (c:List Int→Option β) (ys:List (List Int)):Prop :=
 ∀(hs:List Value) (c' : Value→Option β),hs.length=xs.length→(∀i,i < xs.length→c' (hd hs i)=c (ct xs i))→∃hs', f hs c' = some hs' ∧ Sel hs xs hs' ys
noncomputable def G1 {β : Type} (f:List Value→(Value→Option β)→Option (List Value)) (xs:List (List Int)) (c:List Int→Option β):Option (List (List Int)):=open Classical in if h:∃ys,Good1 f xs c ys then some (Classical.choose h)else none
def labels (n:Nat):List Value:=(List.range n).map fun(i:Nat)=>Value.int .i64 (i:Int)
theorem Zdc {n i:Nat} (h:i < n):hd (labels n) i = .int .i64 (i:Int):=by
 unfold hd labels
 simp[List.getD_eq_getElem?_getD,h]
theorem Sel.uniq {xs:List (List Int)} {hs' : List Value} {ys zs:List (List Int)} (h:Sel (labels xs.length) xs hs' ys) (k:Sel (labels xs.length) xs hs' zs):ys=zs:=by
 obtain⟨s1,_,l1,e1,rfl⟩:=h
 obtain⟨s2,_,l2,e2,rfl⟩:=k
 have:s1=s2:=by
  have e:=e1.symm.trans e2
  have m:∀(s:List Nat),(∀i∈s,i < xs.length)→s.map (hd (labels xs.length))=s.map fun(i:Nat)=>Value.int .i64 (i:Int):=fun s hs=>List.map_congr_left fun i hi=>Zdc (hs i hi)
  rw[m s1 l1,m s2 l2]at e
  exact(List.map_inj_right (fun a b h=>by injection h with _ h;omega)).1 e
 rw[this]
noncomputable def lab2 {β : Type} (xs:List (List Int)) (c:List Int→List Int→Option β):Value→Value→Option β
 | .int _ i,.int _ j=>c (ct xs i.toNat) (ct xs j.toNat)
 | _,_=>none
noncomputable def lab1 {β : Type} (xs:List (List Int)) (c:List Int→Option β):Value→Option β
 | .int _ i=>c (ct xs i.toNat)
 | _=>none
theorem G2_eq {β : Type} {f:List Value→(Value→Value→Option β)→Option (List Value)} {xs:List (List Int)} {c:List Int→List Int→Option β} {ys:List (List Int)} (h:Good2 f xs c ys):G2 f xs c=some ys:=by
 unfold G2
 have he:∃ys,Good2 f xs c ys:=⟨ys,h⟩
 rw[dif_pos he]
 have h2:=Classical.choose_spec he
 have hl:(labels xs.length).length=xs.length:=by simp[labels]
 have hc:∀i j,i < xs.length→j < xs.length→lab2 xs c (hd (labels xs.length) i) (hd (labels xs.length) j)=c (ct xs i) (ct xs j):=fun i j hi hj=>by rw[Zdc hi,Zdc hj];show c (ct xs ((i:Int)).toNat) (ct xs ((j:Int)).toNat)=_;rw[Int.toNat_natCast,Int.toNat_natCast]
 obtain⟨a,a1,a2⟩:=h (labels xs.length) (lab2 xs c) hl hc
 obtain⟨b,b1,b2⟩:=h2 (labels xs.length) (lab2 xs c) hl hc
 rw[a1]at b1
 cases b1
 rw[Sel.uniq b2 a2]
theorem G1_eq {β : Type} {f:List Value→(Value→Option β)→Option (List Value)} {xs:List (List Int)} {c:List Int→Option β} {ys:List (List Int)} (h:Good1 f xs c ys):G1 f xs c=some ys:=by
 unfold G1
 have he:∃ys,Good1 f xs c ys:=⟨ys,h⟩
 rw[dif_pos he]
 have h2:=Classical.choose_spec he
 have hl:(labels xs.length).length=xs.length:=by simp[labels]
 have hc:∀i,i < xs.length→lab1 xs c (hd (labels xs.length) i)=c (ct xs i):=fun i hi=>by rw[Zdc hi];show c (ct xs ((i:Int)).toNat)=_;rw[Int.toNat_natCast]
 obtain⟨a,a1,a2⟩:=h (labels xs.length) (lab1 xs c) hl hc
 obtain⟨b,b1,b2⟩:=h2 (labels xs.length) (lab1 xs c) hl hc
 rw[a1]at b1
 cases b1
 rw[Sel.uniq b2 a2]
theorem Zl4 {β : Type} {f:List Value→(Value→Value→Option β)→Option (List Value)} {xs:List (List Int)} {c:List Int→List Int→Option β} {ys:List (List Int)} (h:G2 f xs c=some ys):Good2 f xs c ys:=by
 unfold G2 at h
 split at h
 ·
  rename_i he
  cases h
  exact Classical.choose_spec he
 ·
  cases h
theorem Zm0 {β : Type} {f:List Value→(Value→Option β)→Option (List Value)} {xs:List (List Int)} {c:List Int→Option β} {ys:List (List Int)} (h:G1 f xs c=some ys):Good1 f xs c ys:=by
 unfold G1 at h
 split at h
 ·
  rename_i he
  cases h
  exact Classical.choose_spec he
 ·
  cases h
end Go.Proofs.YthmcpmnhdbeahaaGreat.D
namespace Go.Proofs.YthmcpmnhdbeahaaGreat.D
open Go Go.RowKit
section
variable {P:Program} {B Z:Nat→Prop} {w:World} {e e' : TypeId} {k:IntKind} {hdr:Value} {xs:List (List Int)} {F:Nat→Prop} {hs:List Value} {Fs:Nat→Nat→Prop} {r:Ty}
theorem ZdJ {u v:Value} (h1:u.cells.toList=[v]) (h2:u.oneCell' = true):u=v:=by
 cases u <;> simp[Value.oneCell', Value.cells]at h1 h2 ⊢ <;> exact h1
theorem Zkg (h:Parts w e e' k hdr xs F hs Fs) {f:dens [.sl e' (.int k),.sl e' (.int k)]→Option r.den} {v:Value} (hf:FnR P (fun b=>Z b∨B b) w [.sl e' (.int k),.sl e' (.int k)] r f v) (hlt:∀i b,Fs i b→b < w.heap.size) :
  FnR P (fun b=>(Z b∨∃i,Fs i b)∨B b) w [.raw,.raw] r (fun z=>(cont hs xs z.1).bind fun a=>(cont hs xs z.2.1).bind fun b=>f (a,(b,()))) v:=by
 obtain⟨g,first,caps,q1,q2,q3⟩:=hf
 refine⟨g,first,caps,q1,q2,fun w1 Z1 z y vs hsm hy hZ1 hargs => ?_⟩
 obtain⟨u1,cs1,r1,rfl,c1,o1,rep1,u2,cs2,r2,rfl,c2,o2,rep2,rfl⟩:=hargs
 obtain⟨rfl,_⟩:=rep1
 obtain⟨rfl,_⟩:=rep2
 have e1:=ZdJ c1 (o1 rfl)
 have e2:=ZdJ c2 (o2 rfl)
 obtain⟨a,ha,hy⟩:=Option.bind_eq_some_iff.1 hy
 obtain⟨b,hb,hy⟩:=Option.bind_eq_some_iff.1 hy
 obtain⟨i,hi,i1,rfl⟩:=ZfI h.len ha
 obtain⟨j,hj,j1,rfl⟩:=ZfI h.len hb
 have hsm2:∀i b,Fs i b→w1.heap[b]? = w.heap[b]? := fun i b hb=>hsm b (.inl (.inr ⟨i,hb⟩))
 have hsz:∀b,(∃i,Fs i b)→b < w1.heap.size:=fun b ⟨i,hb⟩=>by
  have h0:=hlt i b hb
  have h1:=hsm2 i b hb
  rw[Array.getElem?_eq_getElem h0]at h1
  exact(Array.getElem?_eq_some_iff.1 h1).1
 have v1:=h.view hsm2 hi
 have v2:=h.view hsm2 hj
 rw[i1,←e1]at v1
 rw[j1,←e2]at v2
 refine q3 w1 (fun b=>∃i,Fs i b) (ct xs i,(ct xs j,())) y [u1,u2] (fun b hb=>hsm b (hb.elim (fun h => .inl (.inl h)) .inr)) hy hsz ⟨u1,[u1],[u2],rfl,by rw[c1,e1],o1,v1,u2,[u2],[],rfl,by rw[c2,e2],o2,v2,rfl⟩
theorem ZmA (h:Parts w e e' k hdr xs F hs Fs) {f:dens [.sl e' (.int k)]→Option r.den} {v:Value} (hf:FnR P (fun b=>Z b∨B b) w [.sl e' (.int k)] r f v) (hlt:∀i b,Fs i b→b < w.heap.size) :
  FnR P (fun b=>(Z b∨∃i,Fs i b)∨B b) w [.raw] r (fun z=>(cont hs xs z.1).bind fun a=>f (a,())) v:=by
 obtain⟨g,first,caps,q1,q2,q3⟩:=hf
 refine⟨g,first,caps,q1,q2,fun w1 Z1 z y vs hsm hy hZ1 hargs => ?_⟩
 obtain⟨u1,cs1,r1,rfl,c1,o1,rep1,rfl⟩:=hargs
 obtain⟨rfl,_⟩:=rep1
 have e1:=ZdJ c1 (o1 rfl)
 obtain⟨a,ha,hy⟩:=Option.bind_eq_some_iff.1 hy
 obtain⟨i,hi,i1,rfl⟩:=ZfI h.len ha
 have hsm2:∀i b,Fs i b→w1.heap[b]? = w.heap[b]? := fun i b hb=>hsm b (.inl (.inr ⟨i,hb⟩))
 have hsz:∀b,(∃i,Fs i b)→b < w1.heap.size:=fun b ⟨i,hb⟩=>by
  have h0:=hlt i b hb
  have h1:=hsm2 i b hb
  rw[Array.getElem?_eq_getElem h0]at h1
  exact(Array.getElem?_eq_some_iff.1 h1).1
 have v1:=h.view hsm2 hi
 rw[i1,←e1]at v1
 exact q3 w1 (fun b=>∃i,Fs i b) (ct xs i,()) y [u1] (fun b hb=>hsm b (hb.elim (fun h => .inl (.inl h)) .inr)) hy hsz ⟨u1,[u1],[],rfl,by rw[c1,e1],o1,v1,rfl⟩
end
theorem Zka {P:Program} {g:FuncId} {e e' : TypeId} {k:IntKind} {r:Ty} {f:List Value→(Value→Value→Option r.den)→Option (List Value)}
  (hv:Valid P g ⟨[.one (.own e true .raw),.one (.fn [.raw,.raw] r)],[],List Value,fun x=>f x.1 (fun a b=>x.2.1 (a,(b,()))),fun y=>((),(y,()))⟩) :
  Valid P g ⟨[.one (.own e true (.sl e' (.int k))),.one (.fn [.sl e' (.int k),.sl e' (.int k)] r)],[],List (List Int),fun x=>G2 f x.1 (fun a b=>x.2.1 (a,(b,()))),fun y=>((),(y,()))⟩:=by
 refine⟨hv.1,fun x ys hx Z B S w vs ha hS hZ hB => ?_⟩
 obtain⟨v,vs', F0,F1,rfl,h1,⟨v2,vs2,F2,F3,rfl,h2,h3,_⟩,hF0,hF1,hF01⟩:=ha
 cases h3
 have h1:Zb1 w e 1 (Rep Z w true (.sl e' (.int k))) v x.1 F0:=h1
 have h2:FnR P (fun b=>Z b∨B b) w [.sl e' (.int k),.sl e' (.int k)] r x.2.1 v2:=h2
 obtain⟨hs,Fs,hp⟩:=parts h1
 have hFS:∀i b,Fs i b→S b:=fun i b hb=>hF0 b (hp.sub i b hb).2.1
 have hlt:∀i b,Fs i b→b < w.heap.size:=fun i b hb=>(hS b (hFS i b hb)).2.2
 have hfn:=Zkg (P:=P) (B:=B) (Z:=Z) hp h2 hlt
 obtain⟨hs', hf,sel,hnd,hsl,e1,e2⟩:=Zl4 hx hs (fun a b=>(cont hs x.1 a).bind fun a=>(cont hs x.1 b).bind fun b=>x.2.1 (a,(b,()))) hp.len (fun i j hi hj=>by rw[hp.cont hi,hp.cont hj];rfl)
 have hcall:=hv.2 (hs,((fun z=>(cont hs x.1 z.1).bind fun a=>(cont hs x.1 z.2.1).bind fun b=>x.2.1 (a,(b,()))),())) hs' hf (fun b=>Z b∨∃i,Fs i b) B (fun b=>v.ownBlock=some b) w [v,v2]
  ⟨v,[v2],fun b=>v.ownBlock=some b,fun _=>False,rfl,hp.raw _,⟨v2,[],fun _=>False,fun _=>False,rfl,hfn,rfl,fun _ h=>h,fun _ h=>h,fun _ h=>h.elim⟩,fun _ h=>h,fun _ h=>h.elim,fun _ _ h=>h⟩
  (fun b hb=>⟨fun hz=>hz.elim (hS b (hF0 b (hp.own b hb))).1 fun⟨i,hi⟩=>(hp.sub i b hi).2.2 hb,(hS b (hF0 b (hp.own b hb))).2⟩) (fun b hb=>hb.elim (hZ b) fun⟨i,hi⟩=>hlt i b hi) hB
 refine hcall.mono ?_
 rintro en w' ⟨u,rfl,Z', Fi,Fo,q⟩
 obtain⟨u1,us1,G0,G1,eu,hrow,_,hG0,_,_⟩:=q.io
 cases eu
 have hrow:Zb1 w' e 1 (Rep Z' w' true .raw) v hs' G0:=hrow
 have hsm:∀i b,Fs i b→w'.heap[b]? = w.heap[b]? := fun i b hb=>q.old b (hlt i b hb) (hp.sub i b hb).2.2
 have hdeep:=unparts (Z:=Z) hp hsm hrow (fun i b hb hg=>(q.new b (.inl (hG0 b hg))).2.2 (q.zm b (.inr ⟨i,hb⟩))) hnd hsl e1
 rw[←e2]at hdeep
 obtain⟨us,hu,hus⟩:=q.out
 have hus:us=[]:=hus
 subst hus
 refine⟨u,rfl,Z,fun b=>G0 b∨∃i∈sel,Fs i b,fun _=>False,⟨⟨v,[v2],_,fun _=>False,rfl,hdeep,⟨v2,[],fun _=>False,fun _=>False,rfl,trivial,trivial,fun _ h=>h,fun _ h=>h,fun _ h=>h.elim⟩,fun _ h=>h,fun _ h=>h.elim,fun _ _ h=>h⟩,⟨[],hu,rfl⟩,fun _ _ h=>h,fun b hb => ?_,fun _ h=>h,fun b hb=>⟨.inl hb,Nat.lt_of_lt_of_le (hZ b hb) q.size⟩,q.os,q.tape,q.output,q.size,fun b hb hn=>q.old b hb fun hb' => hn (hF0 b (hp.own b hb'))⟩⟩
 rcases hb with (hb|⟨i,hi,hb⟩)|hb
 ·
  obtain⟨n1,n2,n3⟩:=q.new b (.inl (hG0 b hb))
  exact⟨n1.imp (fun h=>hF0 b (hp.own b h)) id,n2,fun hz=>n3 (q.zm b (.inl hz))⟩
 ·
  exact⟨.inl (hFS i b hb),Nat.lt_of_lt_of_le (hlt i b hb) q.size,(hS b (hFS i b hb)).1⟩
 ·
  exact hb.elim
theorem Zj9 {P:Program} {g:FuncId} {e e' : TypeId} {k:IntKind} {r:Ty} {f:List Value→(Value→Value→Option r.den)→Option (List Value)}
  (hv:Valid P g ⟨[.eat e true .raw,.one (.fn [.raw,.raw] r)],[.one (.own e true .raw)],List Value,fun x=>f x.1 (fun a b=>x.2.1 (a,(b,()))),fun y=>((y,()),())⟩) :
  Valid P g ⟨[.eat e true (.sl e' (.int k)),.one (.fn [.sl e' (.int k),.sl e' (.int k)] r)],[.one (.own e true (.sl e' (.int k)))],List (List Int),fun x=>G2 f x.1 (fun a b=>x.2.1 (a,(b,()))),fun y=>((y,()),())⟩:=by
 refine⟨hv.1,fun x ys hx Z B S w vs ha hS hZ hB => ?_⟩
 obtain⟨v,vs', F0,F1,rfl,h1,⟨v2,vs2,F2,F3,rfl,h2,h3,_⟩,hF0,hF1,hF01⟩:=ha
 cases h3
 have h1:Zb1 w e 1 (Rep Z w true (.sl e' (.int k))) v x.1 F0:=h1
 have h2:FnR P (fun b=>Z b∨B b) w [.sl e' (.int k),.sl e' (.int k)] r x.2.1 v2:=h2
 obtain⟨hs,Fs,hp⟩:=parts h1
 have hFS:∀i b,Fs i b→S b:=fun i b hb=>hF0 b (hp.sub i b hb).2.1
 have hlt:∀i b,Fs i b→b < w.heap.size:=fun i b hb=>(hS b (hFS i b hb)).2.2
 have hfn:=Zkg (P:=P) (B:=B) (Z:=Z) hp h2 hlt
 obtain⟨hs', hf,sel,hnd,hsl,e1,e2⟩:=Zl4 hx hs (fun a b=>(cont hs x.1 a).bind fun a=>(cont hs x.1 b).bind fun b=>x.2.1 (a,(b,()))) hp.len (fun i j hi hj=>by rw[hp.cont hi,hp.cont hj];rfl)
 have hcall:=hv.2 (hs,((fun z=>(cont hs x.1 z.1).bind fun a=>(cont hs x.1 z.2.1).bind fun b=>x.2.1 (a,(b,()))),())) hs' hf (fun b=>Z b∨∃i,Fs i b) B (fun b=>v.ownBlock=some b) w [v,v2]
  ⟨v,[v2],fun b=>v.ownBlock=some b,fun _=>False,rfl,hp.raw _,⟨v2,[],fun _=>False,fun _=>False,rfl,hfn,rfl,fun _ h=>h,fun _ h=>h,fun _ h=>h.elim⟩,fun _ h=>h,fun _ h=>h.elim,fun _ _ h=>h⟩
  (fun b hb=>⟨fun hz=>hz.elim (hS b (hF0 b (hp.own b hb))).1 fun⟨i,hi⟩=>(hp.sub i b hi).2.2 hb,(hS b (hF0 b (hp.own b hb))).2⟩) (fun b hb=>hb.elim (hZ b) fun⟨i,hi⟩=>hlt i b hi) hB
 refine hcall.mono ?_
 rintro en w' ⟨u,rfl,Z', Fi,Fo,q⟩
 obtain⟨us,hu,u1,us1,G0,G1,rfl,hrow,hus1,hG0,_,_⟩:=q.out
 have hus1:us1=[]:=hus1
 subst hus1
 have hrow:Zb1 w' e 1 (Rep Z' w' true .raw) u1 hs' G0:=hrow
 have hsm:∀i b,Fs i b→w'.heap[b]? = w.heap[b]? := fun i b hb=>q.old b (hlt i b hb) (hp.sub i b hb).2.2
 have hdeep:=unparts (Z:=Z) hp hsm hrow (fun i b hb hg=>(q.new b (.inr (hG0 b hg))).2.2 (q.zm b (.inr ⟨i,hb⟩))) hnd hsl e1
 rw[←e2]at hdeep
 refine⟨u,rfl,Z,fun _=>False,fun b=>G0 b∨∃i∈sel,Fs i b,⟨⟨v,[v2],fun _=>False,fun _=>False,rfl,trivial,⟨v2,[],fun _=>False,fun _=>False,rfl,trivial,trivial,fun _ h=>h,fun _ h=>h,fun _ h=>h.elim⟩,fun _ h=>h,fun _ h=>h,fun _ h=>h.elim⟩,⟨[u1],hu,u1,[],_,fun _=>False,rfl,hdeep,rfl,fun _ h=>h,fun _ h=>h.elim,fun _ _ h=>h⟩,fun _ h=>h.elim,fun b hb => ?_,fun _ h=>h,fun b hb=>⟨.inl hb,Nat.lt_of_lt_of_le (hZ b hb) q.size⟩,q.os,q.tape,q.output,q.size,fun b hb hn=>q.old b hb fun hb' => hn (hF0 b (hp.own b hb'))⟩⟩
 rcases hb with hb|hb|⟨i,hi,hb⟩
 ·
  exact hb.elim
 ·
  obtain⟨n1,n2,n3⟩:=q.new b (.inr (hG0 b hb))
  exact⟨n1.imp (fun h=>hF0 b (hp.own b h)) id,n2,fun hz=>n3 (q.zm b (.inl hz))⟩
 ·
  exact⟨.inl (hFS i b hb),Nat.lt_of_lt_of_le (hlt i b hb) q.size,(hS b (hFS i b hb)).1⟩
theorem Zj8 {P:Program} {g:FuncId} {e e' : TypeId} {k:IntKind} {r:Ty} {f:List Value→(Value→Option r.den)→Option (List Value)}
  (hv:Valid P g ⟨[.eat e true .raw,.one (.fn [.raw] r)],[.one (.own e true .raw)],List Value,fun x=>f x.1 (fun a=>x.2.1 (a,())),fun y=>((y,()),())⟩) :
  Valid P g ⟨[.eat e true (.sl e' (.int k)),.one (.fn [.sl e' (.int k)] r)],[.one (.own e true (.sl e' (.int k)))],List (List Int),fun x=>G1 f x.1 (fun a=>x.2.1 (a,())),fun y=>((y,()),())⟩:=by
 refine⟨hv.1,fun x ys hx Z B S w vs ha hS hZ hB => ?_⟩
 obtain⟨v,vs', F0,F1,rfl,h1,⟨v2,vs2,F2,F3,rfl,h2,h3,_⟩,hF0,hF1,hF01⟩:=ha
 cases h3
 have h1:Zb1 w e 1 (Rep Z w true (.sl e' (.int k))) v x.1 F0:=h1
 have h2:FnR P (fun b=>Z b∨B b) w [.sl e' (.int k)] r x.2.1 v2:=h2
 obtain⟨hs,Fs,hp⟩:=parts h1
 have hFS:∀i b,Fs i b→S b:=fun i b hb=>hF0 b (hp.sub i b hb).2.1
 have hlt:∀i b,Fs i b→b < w.heap.size:=fun i b hb=>(hS b (hFS i b hb)).2.2
 have hfn:=ZmA (P:=P) (B:=B) (Z:=Z) hp h2 hlt
 obtain⟨hs', hf,sel,hnd,hsl,e1,e2⟩:=Zm0 hx hs (fun a=>(cont hs x.1 a).bind fun a=>x.2.1 (a,())) hp.len (fun i hi=>by rw[hp.cont hi];rfl)
 have hcall:=hv.2 (hs,((fun z=>(cont hs x.1 z.1).bind fun a=>x.2.1 (a,())),())) hs' hf (fun b=>Z b∨∃i,Fs i b) B (fun b=>v.ownBlock=some b) w [v,v2]
  ⟨v,[v2],fun b=>v.ownBlock=some b,fun _=>False,rfl,hp.raw _,⟨v2,[],fun _=>False,fun _=>False,rfl,hfn,rfl,fun _ h=>h,fun _ h=>h,fun _ h=>h.elim⟩,fun _ h=>h,fun _ h=>h.elim,fun _ _ h=>h⟩
  (fun b hb=>⟨fun hz=>hz.elim (hS b (hF0 b (hp.own b hb))).1 fun⟨i,hi⟩=>(hp.sub i b hi).2.2 hb,(hS b (hF0 b (hp.own b hb))).2⟩) (fun b hb=>hb.elim (hZ b) fun⟨i,hi⟩=>hlt i b hi) hB
 refine hcall.mono ?_
 rintro en w' ⟨u,rfl,Z', Fi,Fo,q⟩
 obtain⟨us,hu,u1,us1,G0,G1,rfl,hrow,hus1,hG0,_,_⟩:=q.out
 have hus1:us1=[]:=hus1
 subst hus1
 have hrow:Zb1 w' e 1 (Rep Z' w' true .raw) u1 hs' G0:=hrow
 have hsm:∀i b,Fs i b→w'.heap[b]? = w.heap[b]? := fun i b hb=>q.old b (hlt i b hb) (hp.sub i b hb).2.2
 have hdeep:=unparts (Z:=Z) hp hsm hrow (fun i b hb hg=>(q.new b (.inr (hG0 b hg))).2.2 (q.zm b (.inr ⟨i,hb⟩))) hnd hsl e1
 rw[←e2]at hdeep
 refine⟨u,rfl,Z,fun _=>False,fun b=>G0 b∨∃i∈sel,Fs i b,⟨⟨v,[v2],fun _=>False,fun _=>False,rfl,trivial,⟨v2,[],fun _=>False,fun _=>False,rfl,trivial,trivial,fun _ h=>h,fun _ h=>h,fun _ h=>h.elim⟩,fun _ h=>h,fun _ h=>h,fun _ h=>h.elim⟩,⟨[u1],hu,u1,[],_,fun _=>False,rfl,hdeep,rfl,fun _ h=>h,fun _ h=>h.elim,fun _ _ h=>h⟩,fun _ h=>h.elim,fun b hb => ?_,fun _ h=>h,fun b hb=>⟨.inl hb,Nat.lt_of_lt_of_le (hZ b hb) q.size⟩,q.os,q.tape,q.output,q.size,fun b hb hn=>q.old b hb fun hb' => hn (hF0 b (hp.own b hb'))⟩⟩
 rcases hb with hb|hb|⟨i,hi,hb⟩
 ·
  exact hb.elim
 ·
  obtain⟨n1,n2,n3⟩:=q.new b (.inr (hG0 b hb))
  exact⟨n1.imp (fun h=>hF0 b (hp.own b h)) id,n2,fun hz=>n3 (q.zm b (.inl hz))⟩
 ·
  exact⟨.inl (hFS i b hb),Nat.lt_of_lt_of_le (hlt i b hb) q.size,(hS b (hFS i b hb)).1⟩
end Go.Proofs.YthmcpmnhdbeahaaGreat.D
namespace Go.Proofs.YthmcpmnhdbeahaaGreat.P
open Go Go.RowKit Go.Proofs.YthmcpmnhdbeahaaGreat.D
noncomputable def ZC.f (l0:List (List Int)) (f1:(List Int)→(List Int)→Option Int):Option (List (List Int)):=G2 R.ZC.f l0 f1
noncomputable def ZC.con:Con:=⟨[.one (.own 27 true (.sl 2 (.int .i64))),.one (.fn [(.sl 2 (.int .i64)),(.sl 2 (.int .i64))] (.int .i64))],[],List (List Int),fun x=>ZC.f x.1 (fun z0 z1=>x.2.1 (z0,z1,())),fun r=>((()),(r,()))⟩
theorem ZC.valid:Valid Tryz.prog 179 ZC.con:=Zka R.ZC.valid
end Go.Proofs.YthmcpmnhdbeahaaGreat.P
namespace Go.Proofs.YthmcpmnhdbeahaaGreat.R
open Go Go.RowKit Go.Proofs.YthmcpmnhdbeahaaGreat.D
noncomputable def Zl.E:Env:={ tt:=TT,con:=[],frz:=[],rows:=[],live:=[(4,[0,1,5]),(9,[0,1,5,6,7])],n:=66,pin:=0,nils:=[] }
noncomputable def Zl.fn:D.Fn:={ body:=Tryz.f180.body.getD .skip,res:=Tryz.f180.results.toList,ins:=[.eat 27 true .raw,.one (.fn [.raw,.raw] .bool)],outs:=[.one (.own 27 true .raw)] }
def Zl.enc (y:lsd (flats Zl.fn.outs)×lsd (ios Zl.fn.ins)):(List Value):=y.1.1
noncomputable def Zl.f (l0:List Value) (f1:Value→Value→Option Bool):Option (List Value):=denF Zl.E Zl.fn Zl.enc (l0,fun x=>f1 x.1 x.2.1,())
noncomputable def Zl.l0 (fx1:Value→Value→Option Bool) (x5:Int) (r0:List Value):Option (List Value):=denAt Zl.E Zl.fn Zl.enc [1,1,0,1,0] { fr:=[(0,.lf (.own 0)),(1,.lf (.fn [.raw,.raw] .bool (fun x=>fx1 x.1 x.2.1))),(5,.lf (.int .i64 x5))],ob:=[(0,.row 27 true .raw r0)],nx:=1 }
noncomputable def Zl.l1 (fx1:Value→Value→Option Bool) (x5:Int) (x6:Nat) (x7:Int) (r0:List Value):Option (List Value):=denAt Zl.E Zl.fn Zl.enc [1,1,0,1,0,0,1,0,0,1,0,1,0,1,0] { fr:=[(0,.lf (.own 0)),(1,.lf (.fn [.raw,.raw] .bool (fun x=>fx1 x.1 x.2.1))),(5,.lf (.int .i64 x5)),(6,.lf (.sub 0 x6)),(7,.lf (.int .i64 x7))],ob:=[(0,.row 27 true .raw r0)],nx:=1 }
theorem Zl.f_eq (l0:List Value) (f1:Value→Value→Option Bool):Zl.f l0 f1=if(l0.length:Int) < 2 then(some l0)else(Zl.l0 f1 1 l0):=by kernel_rfl
theorem Zl.l0_eq (fx1:Value→Value→Option Bool) (x5:Int) (r0:List Value):Zl.l0 fx1 x5 r0=if x5 < (r0.length:Int)then(if 0≤x5 then(if x5 < (r0.length:Int)then(if 0≤x5 then(if x5 < (r0.length:Int)then(if 0≤wrapI (x5 - 1)then(if wrapI (x5 - 1) < (r0.length:Int)then(if 0≤wrapI (x5 - 1)then(if wrapI (x5 - 1) < (r0.length:Int)then((fx1 (Ty.rd .raw r0 x5) (Ty.rd .raw r0 (wrapI (x5 - 1)))).bind fun t28=>if t28=true then(if 0 < (r0.length:Int)then(if 0≤x5 then(if x5≤(r0.length:Int)then(Zl.l1 fx1 x5 ((x5:Int).toNat) 1 r0)else none)else none)else none)else(Zl.l0 fx1 (wrapI (x5+1)) r0))else none)else none)else none)else none)else none)else none)else none)else none)else(some r0):=(Zv _ _ _ _).trans (by kernel_rfl)
theorem Zl.l1_eq (fx1:Value→Value→Option Bool) (x5:Int) (x6:Nat) (x7:Int) (r0:List Value):Zl.l1 fx1 x5 x6 x7 r0=if x7 < ((r0.length - x6:Nat):Int)then(if 0≤x7 then(if(x6:Int)+x7 < (r0.length:Int)then(if 0≤(x6:Int)+x7 then(if(x6:Int)+x7 < (r0.length:Int)then(if 0≤wrapI (x7 - 1)then(if(x6:Int)+(wrapI (x7 - 1)) < (r0.length:Int)then(if 0≤(x6:Int)+(wrapI (x7 - 1))then(if(x6:Int)+(wrapI (x7 - 1)) < (r0.length:Int)then((fx1 (Ty.rd .raw r0 ((x6:Int)+x7)) (Ty.rd .raw r0 ((x6:Int)+(wrapI (x7 - 1))))).bind fun t48=>if t48=true then(Zl.l1 fx1 x5 x6 (wrapI (x7+1)) r0)else(if 0≤x7 then(if(x6:Int)+x7 < (r0.length:Int)then(if 0≤(x6:Int)+x7 then(if(x6:Int)+x7 < (r0.length:Int)then(if 0≤x5 then(if x5 < (r0.length:Int)then(if 0≤x5 then(if x5 < (r0.length:Int)then(Zl.l1 fx1 (wrapI (x5+1)) x6 (wrapI (x7+1)) (r0.set (x5:Int).toNat (Ty.rd .raw r0 ((x6:Int)+x7))))else none)else none)else none)else none)else none)else none)else none)else none))else none)else none)else none)else none)else none)else none)else none)else none)else(if 0 < (r0.length:Int)then(if 0≤x5 then(if x5≤(r0.length:Int)then(if 0 < ((r0.take ((x5:Int).toNat)++List.replicate (r0.length - ((x5:Int).toNat)) (Value.slice none 0 0)).length:Int)then(if 0≤x5 then(if x5≤((r0.take ((x5:Int).toNat)++List.replicate (r0.length - ((x5:Int).toNat)) (Value.slice none 0 0)).length:Int)then(some ((r0.take ((x5:Int).toNat)++List.replicate (r0.length - ((x5:Int).toNat)) (Value.slice none 0 0)).take (x5:Int).toNat))else none)else none)else none)else none)else none)else none):=(Zv _ _ _ _).trans (by kernel_rfl)
noncomputable def Zl.con:Con:=⟨Zl.fn.ins,Zl.fn.outs,(List Value),fun x=>Zl.f x.1 (fun z0 z1=>x.2.1 (z0,z1,())),fun r=>((r,()),(()))⟩
theorem Zl.valid:Valid Tryz.prog 180 Zl.con:=fnV Zl.fn Zl.E Zl.enc ⟨ttOk,Zaq⟩ Tryz.func180
end Go.Proofs.YthmcpmnhdbeahaaGreat.R
namespace Go.Proofs.YthmcpmnhdbeahaaGreat.P
open Go Go.RowKit Go.Proofs.YthmcpmnhdbeahaaGreat.D
noncomputable def Zl.f (l0:List (List Int)) (f1:(List Int)→(List Int)→Option Bool):Option (List (List Int)):=G2 R.Zl.f l0 f1
noncomputable def Zl.con:Con:=⟨[.eat 27 true (.sl 2 (.int .i64)),.one (.fn [(.sl 2 (.int .i64)),(.sl 2 (.int .i64))] .bool)],[.one (.own 27 true (.sl 2 (.int .i64)))],List (List Int),fun x=>Zl.f x.1 (fun z0 z1=>x.2.1 (z0,z1,())),fun r=>((r,()),(()))⟩
theorem Zl.valid:Valid Tryz.prog 180 Zl.con:=Zj9 R.Zl.valid
end Go.Proofs.YthmcpmnhdbeahaaGreat.P
namespace Go.Proofs.YthmcpmnhdbeahaaGreat.P
open Go Go.RowKit Go.Proofs.YthmcpmnhdbeahaaGreat.D
noncomputable def ZN.E:Env:={ tt:=TT,con:=[(128,ZaO.con),(179,ZC.con),(178,Zy.con),(180,Zl.con),(115,ZP.con)],frz:=[],rows:=[],live:=[(3,[1,3,7,8])],n:=22,pin:=0,nils:=[] }
noncomputable def ZN.fn:D.Fn:={ body:=Tryz.f98.body.getD .skip,res:=Tryz.f98.results.toList,ins:=[.agg [.v (.int .i64),.v (.sl 2 (.int .i64))]],outs:=[.one (.own 27 true (.sl 2 (.int .i64)))] }
def ZN.enc (y:lsd (flats ZN.fn.outs)×lsd (ios ZN.fn.ins)):(List (List Int)):=y.1.1
noncomputable def ZN.f (a0_0:Int) (l0_1:List Int):Option (List (List Int)):=denF ZN.E ZN.fn ZN.enc (a0_0,l0_1,())
noncomputable def ZN.l0 (x7:Int) (x8:Int) (b0_0:Int) (b0_1:List Int) (r1:List (List Int)):Option (List (List Int)):=denAt ZN.E ZN.fn ZN.enc [1,1,0,1,0] { fr:=[(1,.lf (.box 0 0)),(3,.lf (.own 1)),(7,.lf (.int .i64 x7)),(8,.lf (.int .i64 x8))],ob:=[(0,.box 29 false [.int .i64 b0_0,.sl (.int .i64) b0_1]),(1,.row 27 true (.sl 2 (.int .i64)) r1)],nx:=2 }
theorem ZN.f_eq (a0_0:Int) (l0_1:List Int):ZN.f a0_0 l0_1=ZN.l0 a0_0 0 a0_0 l0_1 ([]:List (List Int)):=by kernel_rfl
theorem ZN.l0_eq (x7:Int) (x8:Int) (b0_0:Int) (b0_1:List Int) (r1:List (List Int)):ZN.l0 x7 x8 b0_0 b0_1 r1=if x8 < x7 then((ZaO.f b0_0 b0_1 x8).bind fun t14=>if r1.length+([t14]:List (List Int)).length≤5864062014805 then(ZN.l0 x7 (wrapI (x8+1)) b0_0 b0_1 (r1++([t14]:List (List Int))))else none)else((ZC.f r1 (fun z0 z1=>(Zy.f z0 z1).map fun z=>z)).bind fun t19=>(Zl.f t19 (fun z0 z1=>(ZP.f z0 z1).map fun z=>z)).bind fun t21=>some t21):=(Zv _ _ _ _).trans (by kernel_rfl)
noncomputable def ZN.con:Con:=⟨ZN.fn.ins,ZN.fn.outs,(List (List Int)),fun x=>ZN.f x.1 x.2.1,fun r=>((r,()),(()))⟩
theorem ZN.valid:Valid Tryz.prog 98 ZN.con:=fnV ZN.fn ZN.E ZN.enc ⟨ttOk,(Zs ZaO.valid (Zs ZC.valid (Zs Zy.valid (Zs Zl.valid (Zs ZP.valid Zaq)))))⟩ Tryz.func98
end Go.Proofs.YthmcpmnhdbeahaaGreat.P
namespace Go.Proofs.YthmcpmnhdbeahaaGreat.P
open Go Go.RowKit Go.Proofs.YthmcpmnhdbeahaaGreat.D
noncomputable def Zat.E:Env:={ tt:=TT,con:=[(89,ZaN.con),(98,ZN.con),(97,ZJ.con)],frz:=[],rows:=[],live:=[],n:=21,pin:=0,nils:=[] }
noncomputable def Zat.fn:D.Fn:={ body:=Tryz.f19.body.getD .skip,res:=Tryz.f19.results.toList,ins:=[.agg [.v (.sl 27 (.sl 2 (.int .i64)))],.agg [.v (.int .i64),.v (.sl 2 (.int .i64))],.one (.v (.sl 2 (.int .i64)))],outs:=[.one (.own 2 true (.int .i64)),.one (.v (.int .i64))] }
def Zat.enc (y:lsd (flats Zat.fn.outs)×lsd (ios Zat.fn.ins)):(List Int)×Int:=(y.1.1,y.1.2.1)
noncomputable def Zat.f (l0_0:List (List Int)) (a1_0:Int) (l1_1:List Int) (l2:List Int):Option ((List Int)×Int):=denF Zat.E Zat.fn Zat.enc (l0_0,a1_0,l1_1,l2,())
theorem Zat.f_eq (l0_0:List (List Int)) (a1_0:Int) (l1_1:List Int) (l2:List Int):Zat.f l0_0 a1_0 l1_1 l2=(ZaN.f l0_0 a1_0 l1_1 l2).bind fun t12=>if t12=0 then((ZN.f a1_0 l1_1).bind fun t19=>(ZJ.f a1_0 l1_1 l2 t19).bind fun t20=>some (t20,0))else(some (([]:List Int),t12)):=by kernel_rfl
noncomputable def Zat.con:Con:=⟨Zat.fn.ins,Zat.fn.outs,(List Int)×Int,fun x=>Zat.f x.1 x.2.1 x.2.2.1 x.2.2.2.1,fun r=>((r.1,r.2,()),(()))⟩
theorem Zat.valid:Valid Tryz.prog 19 Zat.con:=fnV Zat.fn Zat.E Zat.enc ⟨ttOk,(Zs ZaN.valid (Zs ZN.valid (Zs ZJ.valid Zaq)))⟩ Tryz.func19
end Go.Proofs.YthmcpmnhdbeahaaGreat.P
namespace Go.Proofs.YthmcpmnhdbeahaaGreat.P
open Go Go.RowKit Go.Proofs.YthmcpmnhdbeahaaGreat.D
noncomputable def ZaW.E:Env:={ tt:=TT,con:=[],frz:=[],rows:=[],live:=[(3,[0,3,4])],n:=38,pin:=0,nils:=[] }
noncomputable def ZaW.fn:D.Fn:={ body:=Tryz.f100.body.getD .skip,res:=Tryz.f100.results.toList,ins:=[.one (.v (.sl 5 (.int .u8)))],outs:=[.ptr false 143 [.v (.sl 5 (.int .u8)),.v (.int .i64),.v (.int .u64)]] }
def ZaW.enc (y:lsd (flats ZaW.fn.outs)×lsd (ios ZaW.fn.ins)):(List Int)×Int×Int:=(y.1.1,y.1.2.1,y.1.2.2.1)
noncomputable def ZaW.f (l0:List Int):Option ((List Int)×Int×Int):=denF ZaW.E ZaW.fn ZaW.enc (l0,())
noncomputable def ZaW.l0 (x0:List Int) (x4:Int) (b0_0:List Int) (b0_1:Int) (b0_2:Int):Option ((List Int)×Int×Int):=denAt ZaW.E ZaW.fn ZaW.enc [1,1,0,1,0] { fr:=[(0,.lf (.sl (.int .u8) x0)),(3,.lf (.box 0 0)),(4,.lf (.int .i64 x4))],ob:=[(0,.box 143 false [.sl (.int .u8) b0_0,.int .i64 b0_1,.int .u64 b0_2])],nx:=1 }
theorem ZaW.f_eq (l0:List Int):ZaW.f l0=ZaW.l0 l0 0 l0 0 (wr .u64 (13631+(wr .u64 (l0.length:Int)))):=by kernel_rfl
theorem ZaW.l0_eq (x0:List Int) (x4:Int) (b0_0:List Int) (b0_1:Int) (b0_2:Int):ZaW.l0 x0 x4 b0_0 b0_1 b0_2=if x4 < (x0.length:Int)then(if x4 < 4096 then(if 0≤x4 then(if x4 < (x0.length:Int)then(ZaW.l0 x0 (wrapI (x4+1)) b0_0 b0_1 (wr .u64 ((wr .u64 ((wr .u64 (b0_2*1099511628211))+(wr .u64 (rd x0 x4))))+197)))else none)else none)else(some (b0_0,b0_1,b0_2)))else(some (b0_0,b0_1,b0_2)):=(Zv _ _ _ _).trans (by kernel_rfl)
noncomputable def ZaW.con:Con:=⟨ZaW.fn.ins,ZaW.fn.outs,(List Int)×Int×Int,fun x=>ZaW.f x.1,fun r=>((r.1,r.2.1,r.2.2,()),(()))⟩
theorem ZaW.valid:Valid Tryz.prog 100 ZaW.con:=fnV ZaW.fn ZaW.E ZaW.enc ⟨ttOk,Zaq⟩ Tryz.func100
end Go.Proofs.YthmcpmnhdbeahaaGreat.P
namespace Go.Proofs.YthmcpmnhdbeahaaGreat.P
open Go Go.RowKit Go.Proofs.YthmcpmnhdbeahaaGreat.D
noncomputable def Zao.E:Env:={ tt:=TT,con:=[],frz:=[],rows:=[],live:=[],n:=6,pin:=0,nils:=[] }
noncomputable def Zao.fn:D.Fn:={ body:=Tryz.f91.body.getD .skip,res:=Tryz.f91.results.toList,ins:=[.agg [.v (.sl 27 (.sl 2 (.int .i64)))]],outs:=[.one (.v (.int .i64))] }
def Zao.enc (y:lsd (flats Zao.fn.outs)×lsd (ios Zao.fn.ins)):Int:=y.1.1
noncomputable def Zao.f (l0_0:List (List Int)):Option Int:=denF Zao.E Zao.fn Zao.enc (l0_0,())
theorem Zao.f_eq (l0_0:List (List Int)):Zao.f l0_0=some (l0_0.length:Int):=by kernel_rfl
noncomputable def Zao.con:Con:=⟨Zao.fn.ins,Zao.fn.outs,Int,fun x=>Zao.f x.1,fun r=>((r,()),(()))⟩
theorem Zao.valid:Valid Tryz.prog 91 Zao.con:=fnV Zao.fn Zao.E Zao.enc ⟨ttOk,Zaq⟩ Tryz.func91
end Go.Proofs.YthmcpmnhdbeahaaGreat.P
namespace Go.Proofs.YthmcpmnhdbeahaaGreat.P
open Go Go.RowKit Go.Proofs.YthmcpmnhdbeahaaGreat.D
noncomputable def Za6.E:Env:={ tt:=TT,con:=[],frz:=[],rows:=[],live:=[],n:=12,pin:=0,nils:=[] }
noncomputable def Za6.fn:D.Fn:={ body:=Tryz.f104.body.getD .skip,res:=Tryz.f104.results.toList,ins:=[.one (.v (.int .i64)),.one (.v (.int .i64))],outs:=[.one (.v (.int .i64))] }
def Za6.enc (y:lsd (flats Za6.fn.outs)×lsd (ios Za6.fn.ins)):Int:=y.1.1
noncomputable def Za6.f (a0:Int) (a1:Int):Option Int:=denF Za6.E Za6.fn Za6.enc (a0,a1,())
theorem Za6.f_eq (a0:Int) (a1:Int):Za6.f a0 a1=if a1=0 then none else(if a1=0 then none else(some ((wrapI (((a0:Int).tmod a1)+a1):Int).tmod a1))):=by kernel_rfl
noncomputable def Za6.con:Con:=⟨Za6.fn.ins,Za6.fn.outs,Int,fun x=>Za6.f x.1 x.2.1,fun r=>((r,()),(()))⟩
theorem Za6.valid:Valid Tryz.prog 104 Za6.con:=fnV Za6.fn Za6.E Za6.enc ⟨ttOk,Zaq⟩ Tryz.func104
end Go.Proofs.YthmcpmnhdbeahaaGreat.P
namespace Go.Proofs.YthmcpmnhdbeahaaGreat.P
open Go Go.RowKit Go.Proofs.YthmcpmnhdbeahaaGreat.D
noncomputable def ZaJ.E:Env:={ tt:=TT,con:=[],frz:=[],rows:=[],live:=[],n:=6,pin:=0,nils:=[] }
noncomputable def ZaJ.fn:D.Fn:={ body:=Tryz.f184.body.getD .skip,res:=Tryz.f184.results.toList,ins:=[.one (.v (.sl 2 (.int .i64)))],outs:=[.one (.own 2 true (.int .i64))] }
def ZaJ.enc (y:lsd (flats ZaJ.fn.outs)×lsd (ios ZaJ.fn.ins)):(List Int):=y.1.1
noncomputable def ZaJ.f (l0:List Int):Option (List Int):=denF ZaJ.E ZaJ.fn ZaJ.enc (l0,())
theorem ZaJ.f_eq (l0:List Int):ZaJ.f l0=if([]:List Int).length+l0.length≤17592186044416 then(some (([]:List Int)++l0))else none:=by kernel_rfl
noncomputable def ZaJ.con:Con:=⟨ZaJ.fn.ins,ZaJ.fn.outs,(List Int),fun x=>ZaJ.f x.1,fun r=>((r,()),(()))⟩
theorem ZaJ.valid:Valid Tryz.prog 184 ZaJ.con:=fnV ZaJ.fn ZaJ.E ZaJ.enc ⟨ttOk,Zaq⟩ Tryz.func184
end Go.Proofs.YthmcpmnhdbeahaaGreat.P
namespace Go.Proofs.YthmcpmnhdbeahaaGreat.P
open Go Go.RowKit Go.Proofs.YthmcpmnhdbeahaaGreat.D
noncomputable def Zn.E (c:Con):Env:={ tt:=TT,con:=[(111,c),(91,Zao.con),(184,ZaJ.con),(104,Za6.con)],frz:=[91],rows:=[22,23],live:=[(6,[2,3,4,7,8,9]),(10,[2,3,4,7,8,9,10,11,12]),(13,[2,3,4,7,8,9,10,11,12,13])],n:=95,pin:=0,nils:=[11] }
noncomputable def Zn.fn:D.Fn:={ body:=Tryz.f111.body.getD .skip,res:=Tryz.f111.results.toList,ins:=[.agg [.v (.sl 27 (.sl 2 (.int .i64)))],.agg [.v (.int .i64),.v (.sl 2 (.int .i64))],.one (.v (.sl 2 (.int .i64)))],outs:=[.one (.own 27 false (.sl 2 (.int .i64)))] }
def Zn.enc (y:lsd (flats Zn.fn.outs)×lsd (ios Zn.fn.ins)):(List (List Int)):=y.1.1
noncomputable def Zn.cof (F:lsd (flats Zn.fn.ins)→Option (List (List Int))):Con:=⟨Zn.fn.ins,Zn.fn.outs,(List (List Int)),F,fun r=>((r,()),(()))⟩
noncomputable def Zn.fx:Nat→lsd (flats Zn.fn.ins)→Option (List (List Int))
 | 0=>fun _=>none
 | n+1=>fun x=>denF (Zn.E (Zn.cof (Zn.fx n))) Zn.fn Zn.enc x
noncomputable def Zn.cn (n:Nat):Con:=Zn.cof (Zn.fx n)
noncomputable def Zn.f (n:Nat) (l0_0:List (List Int)) (a1_0:Int) (l1_1:List Int) (l2:List Int):Option (List (List Int)):=Zn.fx n (l0_0,a1_0,l1_1,l2,())
noncomputable def Zn.l0 (n:Nat) (x2:List Int) (x7:Int) (x9:Int) (b0_0:List (List Int)) (b1_0:Int) (b1_1:List Int) (r2:List (List Int)):Option (List (List Int)):=denAt (Zn.E (Zn.cn n)) Zn.fn Zn.enc [1,1,1,1,0,1,0] { fr:=[(2,.lf (.sl (.int .i64) x2)),(3,.lf (.box 0 0)),(4,.lf (.box 1 0)),(7,.lf (.int .i64 x7)),(8,.lf (.own 2)),(9,.lf (.int .i64 x9))],ob:=[(0,.box 26 false [.sl (.sl 2 (.int .i64)) b0_0]),(1,.box 29 false [.int .i64 b1_0,.sl (.int .i64) b1_1]),(2,.row 27 false (.sl 2 (.int .i64)) r2)],nx:=3 }
noncomputable def Zn.l1 (n:Nat) (x2:List Int) (x7:Int) (x9:Int) (x11:Bool) (x12:Int) (b0_0:List (List Int)) (b1_0:Int) (b1_1:List Int) (r2:List (List Int)) (r3:List Int):Option (List (List Int)):=denAt (Zn.E (Zn.cn n)) Zn.fn Zn.enc [1,1,1,1,0,1,0,0,1,0,0,1,0,1,0] { fr:=[(2,.lf (.sl (.int .i64) x2)),(3,.lf (.box 0 0)),(4,.lf (.box 1 0)),(7,.lf (.int .i64 x7)),(8,.lf (.own 2)),(9,.lf (.int .i64 x9)),(10,.lf (.own 3)),(11,.lf (Zd9 x11)),(12,.lf (.int .i64 x12))],ob:=[(0,.box 26 false [.sl (.sl 2 (.int .i64)) b0_0]),(1,.box 29 false [.int .i64 b1_0,.sl (.int .i64) b1_1]),(2,.row 27 false (.sl 2 (.int .i64)) r2),(3,.row 2 true (.int .i64) r3)],nx:=4 }
noncomputable def Zn.l2 (n:Nat) (x2:List Int) (x7:Int) (x9:Int) (x11:Bool) (x12:Int) (x13:Int) (b0_0:List (List Int)) (b1_0:Int) (b1_1:List Int) (r2:List (List Int)) (r3:List Int):Option (List (List Int)):=denAt (Zn.E (Zn.cn n)) Zn.fn Zn.enc [1,1,1,1,0,1,0,0,1,0,0,1,0,1,0,0,1,0,0,1,0] { fr:=[(2,.lf (.sl (.int .i64) x2)),(3,.lf (.box 0 0)),(4,.lf (.box 1 0)),(7,.lf (.int .i64 x7)),(8,.lf (.own 2)),(9,.lf (.int .i64 x9)),(10,.lf (.own 3)),(11,.lf (Zd9 x11)),(12,.lf (.int .i64 x12)),(13,.lf (.int .i64 x13))],ob:=[(0,.box 26 false [.sl (.sl 2 (.int .i64)) b0_0]),(1,.box 29 false [.int .i64 b1_0,.sl (.int .i64) b1_1]),(2,.row 27 false (.sl 2 (.int .i64)) r2),(3,.row 2 true (.int .i64) r3)],nx:=4 }
theorem Zn.f_eq (n:Nat) (l0_0:List (List Int)) (a1_0:Int) (l1_1:List Int) (l2:List Int):Zn.f (n+1) l0_0 a1_0 l1_1 l2=(Zao.f l0_0).bind fun t19=>if(l2.length:Int)=t19 then(some ([l2]:List (List Int)))else(Zn.l0 n l2 (l2.length:Int) 0 l0_0 a1_0 l1_1 ([]:List (List Int))):=by kernel_rfl
theorem Zn.l0_eq (n:Nat) (x2:List Int) (x7:Int) (x9:Int) (b0_0:List (List Int)) (b1_0:Int) (b1_1:List Int) (r2:List (List Int)):Zn.l0 n x2 x7 x9 b0_0 b1_0 b1_1 r2=if x9 < b1_0 then((ZaJ.f x2).bind fun t31=>if t31.length+([x9]:List Int).length≤17592186044416 then(Zn.l1 n x2 x7 x9 true 0 b0_0 b1_0 b1_1 r2 (t31++([x9]:List Int)))else none)else(some r2):=(Zv _ _ _ _).trans (by kernel_rfl)
theorem Zn.l1_eq (n:Nat) (x2:List Int) (x7:Int) (x9:Int) (x11:Bool) (x12:Int) (b0_0:List (List Int)) (b1_0:Int) (b1_1:List Int) (r2:List (List Int)) (r3:List Int):Zn.l1 n x2 x7 x9 x11 x12 b0_0 b1_0 b1_1 r2 r3=if x12≤x7 then(if x11=true then(Zn.l2 n x2 x7 x9 x11 x12 0 b0_0 b1_0 b1_1 r2 r3)else(if x11=true then((Zn.f n b0_0 b1_0 b1_1 r3).bind fun t92=>if r2.length+t92.length≤5864062014805 then(Zn.l0 n x2 x7 (wrapI (x9+1)) b0_0 b1_0 b1_1 (r2++t92))else none)else(Zn.l0 n x2 x7 (wrapI (x9+1)) b0_0 b1_0 b1_1 r2)))else(if x11=true then((Zn.f n b0_0 b1_0 b1_1 r3).bind fun t92=>if r2.length+t92.length≤5864062014805 then(Zn.l0 n x2 x7 (wrapI (x9+1)) b0_0 b1_0 b1_1 (r2++t92))else none)else(Zn.l0 n x2 x7 (wrapI (x9+1)) b0_0 b1_0 b1_1 r2)):=(Zv _ _ _ _).trans (by kernel_rfl)
theorem Zn.l2_eq (n:Nat) (x2:List Int) (x7:Int) (x9:Int) (x11:Bool) (x12:Int) (x13:Int) (b0_0:List (List Int)) (b1_0:Int) (b1_1:List Int) (r2:List (List Int)) (r3:List Int):Zn.l2 n x2 x7 x9 x11 x12 x13 b0_0 b1_0 b1_1 r2 r3=if x13≤x7 then(if x11=true then(if 0≤x12 then(if x12 < (b0_0.length:Int)then(if 0≤x13 then(if x13 < ((row b0_0 x12).length:Int)then(if(T b0_0 x12 x13) > x7 then(Zn.l2 n x2 x7 x9 true x12 (wrapI (x13+1)) b0_0 b1_0 b1_1 r2 r3)else(if 0≤T b0_0 x12 x13 then(if T b0_0 x12 x13 < (r3.length:Int)then(if 0≤T b0_0 x12 x13 then(if T b0_0 x12 x13 < (r3.length:Int)then(if 0≤x12 then(if x12 < (r3.length:Int)then(if 0≤x12 then(if x12 < (r3.length:Int)then(if 0≤x12 then(if x12 < (b1_1.length:Int)then(if 0≤x13 then(if x13 < (r3.length:Int)then(if 0≤x13 then(if x13 < (r3.length:Int)then((Za6.f (wrapI ((rd r3 x12)+(wrapI ((rd b1_1 x12)*(rd r3 x13))))) b1_0).bind fun t84=>Zn.l2 n x2 x7 x9 (decide ((rd r3 (T b0_0 x12 x13))=t84)) x12 (wrapI (x13+1)) b0_0 b1_0 b1_1 r2 r3)else none)else none)else none)else none)else none)else none)else none)else none)else none)else none)else none)else none)else none)else none))else none)else none)else none)else none)else(Zn.l1 n x2 x7 x9 x11 (wrapI (x12+1)) b0_0 b1_0 b1_1 r2 r3))else(Zn.l1 n x2 x7 x9 x11 (wrapI (x12+1)) b0_0 b1_0 b1_1 r2 r3):=(Zv _ _ _ _).trans (by kernel_rfl)
theorem Zn.vn:∀n,Valid Tryz.prog 111 (Zn.cn n)
 | 0=>Zfc ⟨_,Tryz.func111,by kernel_rfl,by kernel_rfl⟩
 | n+1=>Zey (f:=Zn.fn) (E:=Zn.E (Zn.cn n)) (enc:=Zn.enc) ⟨ttOk,(Zs (Zn.vn n) (Zs Zao.valid (Zs ZaJ.valid (Zs Za6.valid Zaq))))⟩ (Checked.mixed Tryz.checked) ⟨Tryz.func111,by kernel_rfl,by kernel_rfl,by kernel_rfl,by kernel_rfl,of_decide_eq_true (by kernel_rfl),by kernel_rfl,by kernel_rfl⟩ (fun _=>rfl)
noncomputable def Zn.con:Con:=Zn.cn fuel
theorem Zn.valid:Valid Tryz.prog 111 Zn.con:=Zn.vn fuel
end Go.Proofs.YthmcpmnhdbeahaaGreat.P
namespace Go.Proofs.YthmcpmnhdbeahaaGreat.P
open Go Go.RowKit Go.Proofs.YthmcpmnhdbeahaaGreat.D
noncomputable def Zac.E:Env:={ tt:=TT,con:=[],frz:=[],rows:=[],live:=[],n:=58,pin:=1,nils:=[] }
noncomputable def Zac.fn:D.Fn:={ body:=Tryz.f174.body.getD .skip,res:=Tryz.f174.results.toList,ins:=[.ptr false 143 [.v (.sl 5 (.int .u8)),.v (.int .i64),.v (.int .u64)],.one (.v (.int .i64))],outs:=[.one (.v (.int .i64))] }
def Zac.enc (y:lsd (flats Zac.fn.outs)×lsd (ios Zac.fn.ins)):Int×(List Int)×Int×Int:=(y.1.1,y.2.1,y.2.2.1,y.2.2.2.1)
noncomputable def Zac.f (l0_0:List Int) (a0_1:Int) (a0_2:Int) (a1:Int):Option (Int×(List Int)×Int×Int):=denF Zac.E Zac.fn Zac.enc (l0_0,a0_1,a0_2,a1,())
theorem Zac.f_eq (l0_0:List Int) (a0_1:Int) (a0_2:Int) (a1:Int):Zac.f l0_0 a0_1 a0_2 a1=if a1 < 1 then(some (0,l0_0,a0_1,a0_2))else(if a0_1 < (l0_0.length:Int)then(if 0≤a0_1 then(if a0_1 < (l0_0.length:Int)then(if a1=0 then none else(some ((wrapI ((wrapI (andI .u64 (shrI .u64 (wr .u64 ((wr .u64 (a0_2*6364136223846793005))+1442695040888963407)) 33) 16777215))+(wrapI (rd l0_0 a0_1))):Int).tmod a1,l0_0,wrapI (a0_1+1),wr .u64 ((wr .u64 (a0_2*6364136223846793005))+1442695040888963407))))else none)else none)else(if a1=0 then none else(some ((wrapI (andI .u64 (shrI .u64 (wr .u64 ((wr .u64 (a0_2*6364136223846793005))+1442695040888963407)) 33) 16777215):Int).tmod a1,l0_0,a0_1,wr .u64 ((wr .u64 (a0_2*6364136223846793005))+1442695040888963407))))):=by kernel_rfl
noncomputable def Zac.con:Con:=⟨Zac.fn.ins,Zac.fn.outs,Int×(List Int)×Int×Int,fun x=>Zac.f x.1 x.2.1 x.2.2.1 x.2.2.2.1,fun r=>((r.1,()),(r.2.1,r.2.2.1,r.2.2.2,()))⟩
theorem Zac.valid:Valid Tryz.prog 174 Zac.con:=fnV Zac.fn Zac.E Zac.enc ⟨ttOk,Zaq⟩ Tryz.func174
end Go.Proofs.YthmcpmnhdbeahaaGreat.P
namespace Go.Proofs.YthmcpmnhdbeahaaGreat.P
open Go Go.RowKit Go.Proofs.YthmcpmnhdbeahaaGreat.D
noncomputable def Zbe.E:Env:={ tt:=TT,con:=[],frz:=[],rows:=[],live:=[(1,[0,1])],n:=17,pin:=0,nils:=[] }
noncomputable def Zbe.fn:D.Fn:={ body:=Tryz.f183.body.getD .skip,res:=Tryz.f183.results.toList,ins:=[.one (.v (.int .i64)),.one (.v (.int .i64))],outs:=[.one (.v (.int .i64))] }
def Zbe.enc (y:lsd (flats Zbe.fn.outs)×lsd (ios Zbe.fn.ins)):Int:=y.1.1
noncomputable def Zbe.f (a0:Int) (a1:Int):Option Int:=denF Zbe.E Zbe.fn Zbe.enc (a0,a1,())
noncomputable def Zbe.l0 (x0:Int) (x1:Int):Option Int:=denAt Zbe.E Zbe.fn Zbe.enc [1,0,0] { fr:=[(0,.lf (.int .i64 x0)),(1,.lf (.int .i64 x1))],ob:=[],nx:=0 }
theorem Zbe.f_eq (a0:Int) (a1:Int):Zbe.f a0 a1=Zbe.l0 a0 a1:=by kernel_rfl
theorem Zbe.l0_eq (x0:Int) (x1:Int):Zbe.l0 x0 x1=if x1=0 then(some (if(wrapI (0 - x0)) > x0 then(wrapI (0 - x0))else x0))else(if x1=0 then none else(Zbe.l0 x1 ((x0:Int).tmod x1))):=(Zv _ _ _ _).trans (by kernel_rfl)
noncomputable def Zbe.con:Con:=⟨Zbe.fn.ins,Zbe.fn.outs,Int,fun x=>Zbe.f x.1 x.2.1,fun r=>((r,()),(()))⟩
theorem Zbe.valid:Valid Tryz.prog 183 Zbe.con:=fnV Zbe.fn Zbe.E Zbe.enc ⟨ttOk,Zaq⟩ Tryz.func183
end Go.Proofs.YthmcpmnhdbeahaaGreat.P
namespace Go.Proofs.YthmcpmnhdbeahaaGreat.P
open Go Go.RowKit Go.Proofs.YthmcpmnhdbeahaaGreat.D
noncomputable def ZV.E (c:Con):Env:={ tt:=TT,con:=[(289,c),(184,ZaJ.con),(183,Zbe.con)],frz:=[64,91],rows:=[66],live:=[(3,[1,2,3,4,9,10]),(6,[1,2,3,4,9,10,11]),(14,[1,2,3,4,9,13])],n:=95,pin:=0,nils:=[] }
noncomputable def ZV.fn:D.Fn:={ body:=Tryz.f289.body.getD .skip,res:=Tryz.f289.results.toList,ins:=[.agg [.v (.sl 27 (.sl 2 (.int .i64)))],.one (.v (.int .i64)),.one (.v (.sl 2 (.int .i64))),.eat 29 false (.pr (.int .i64) (.sl 2 (.int .i64)))],outs:=[.one (.own 29 false (.pr (.int .i64) (.sl 2 (.int .i64))))] }
def ZV.enc (y:lsd (flats ZV.fn.outs)×lsd (ios ZV.fn.ins)):(List (Int×(List Int))):=y.1.1
noncomputable def ZV.cof (F:lsd (flats ZV.fn.ins)→Option (List (Int×(List Int)))):Con:=⟨ZV.fn.ins,ZV.fn.outs,(List (Int×(List Int))),F,fun r=>((r,()),(()))⟩
noncomputable def ZV.fx:Nat→lsd (flats ZV.fn.ins)→Option (List (Int×(List Int)))
 | 0=>fun _=>none
 | n+1=>fun x=>denF (ZV.E (ZV.cof (ZV.fx n))) ZV.fn ZV.enc x
noncomputable def ZV.cn (n:Nat):Con:=ZV.cof (ZV.fx n)
noncomputable def ZV.f (n:Nat) (l0_0:List (List Int)) (a1:Int) (l2:List Int) (l3:List (Int×(List Int))):Option (List (Int×(List Int))):=ZV.fx n (l0_0,a1,l2,l3,())
noncomputable def ZV.l0 (n:Nat) (x1:Int) (x2:List Int) (x9:Int) (x10:Int) (r0:List (Int×(List Int))) (b1_0:List (List Int)):Option (List (Int×(List Int))):=denAt (ZV.E (ZV.cn n)) ZV.fn ZV.enc [1,1,0,1,0] { fr:=[(1,.lf (.int .i64 x1)),(2,.lf (.sl (.int .i64) x2)),(3,.lf (.own 0)),(4,.lf (.box 1 0)),(9,.lf (.int .i64 x9)),(10,.lf (.int .i64 x10))],ob:=[(0,.row 29 false (.pr (.int .i64) (.sl 2 (.int .i64))) r0),(1,.box 26 false [.sl (.sl 2 (.int .i64)) b1_0])],nx:=2 }
noncomputable def ZV.l1 (n:Nat) (x1:Int) (x2:List Int) (x9:Int) (x10:Int) (x11:Int) (r0:List (Int×(List Int))) (b1_0:List (List Int)):Option (List (Int×(List Int))):=denAt (ZV.E (ZV.cn n)) ZV.fn ZV.enc [1,1,0,1,0,0,1,0,0,1,0] { fr:=[(1,.lf (.int .i64 x1)),(2,.lf (.sl (.int .i64) x2)),(3,.lf (.own 0)),(4,.lf (.box 1 0)),(9,.lf (.int .i64 x9)),(10,.lf (.int .i64 x10)),(11,.lf (.int .i64 x11))],ob:=[(0,.row 29 false (.pr (.int .i64) (.sl 2 (.int .i64))) r0),(1,.box 26 false [.sl (.sl 2 (.int .i64)) b1_0])],nx:=2 }
noncomputable def ZV.l2 (n:Nat) (x1:Int) (x2:List Int) (x9:Int) (x13:Int) (r0:List (Int×(List Int))) (b1_0:List (List Int)):Option (List (Int×(List Int))):=denAt (ZV.E (ZV.cn n)) ZV.fn ZV.enc [1,1,1,1,0,1,0] { fr:=[(1,.lf (.int .i64 x1)),(2,.lf (.sl (.int .i64) x2)),(3,.lf (.own 0)),(4,.lf (.box 1 0)),(9,.lf (.int .i64 x9)),(13,.lf (.int .i64 x13))],ob:=[(0,.row 29 false (.pr (.int .i64) (.sl 2 (.int .i64))) r0),(1,.box 26 false [.sl (.sl 2 (.int .i64)) b1_0])],nx:=2 }
theorem ZV.f_eq (n:Nat) (l0_0:List (List Int)) (a1:Int) (l2:List Int) (l3:List (Int×(List Int))):ZV.f (n+1) l0_0 a1 l2 l3=ZV.l0 n a1 l2 (l2.length:Int) 0 l3 l0_0:=by kernel_rfl
theorem ZV.l0_eq (n:Nat) (x1:Int) (x2:List Int) (x9:Int) (x10:Int) (r0:List (Int×(List Int))) (b1_0:List (List Int)):ZV.l0 n x1 x2 x9 x10 r0 b1_0=if x10 < x9 then(ZV.l1 n x1 x2 x9 x10 0 r0 b1_0)else(if x9=(b1_0.length:Int)then((ZaJ.f x2).bind fun t64=>if r0.length+([(x1,t64)]:List (Int×(List Int))).length≤4398046511104 then(some (r0++([(x1,t64)]:List (Int×(List Int)))))else none)else(ZV.l2 n x1 x2 x9 1 r0 b1_0)):=(Zv _ _ _ _).trans (by kernel_rfl)
theorem ZV.l1_eq (n:Nat) (x1:Int) (x2:List Int) (x9:Int) (x10:Int) (x11:Int) (r0:List (Int×(List Int))) (b1_0:List (List Int)):ZV.l1 n x1 x2 x9 x10 x11 r0 b1_0=if x11 < x9 then(if 0≤x10 then(if x10 < (b1_0.length:Int)then(if 0≤x11 then(if x11 < ((row b1_0 x10).length:Int)then(if(T b1_0 x10 x11) < x9 then(if 0≤T b1_0 x10 x11 then(if T b1_0 x10 x11 < (x2.length:Int)then(if 0≤x10 then(if x10 < (x2.length:Int)then(if 0≤x11 then(if x11 < (x2.length:Int)then(if x1=0 then none else(if(rd x2 (T b1_0 x10 x11))=((wrapI ((rd x2 x10)*(rd x2 x11)):Int).tmod x1)then(ZV.l1 n x1 x2 x9 x10 (wrapI (x11+1)) r0 b1_0)else(some r0)))else none)else none)else none)else none)else none)else none)else(ZV.l1 n x1 x2 x9 x10 (wrapI (x11+1)) r0 b1_0))else none)else none)else none)else none)else(ZV.l0 n x1 x2 x9 (wrapI (x10+1)) r0 b1_0):=(Zv _ _ _ _).trans (by kernel_rfl)
theorem ZV.l2_eq (n:Nat) (x1:Int) (x2:List Int) (x9:Int) (x13:Int) (r0:List (Int×(List Int))) (b1_0:List (List Int)):ZV.l2 n x1 x2 x9 x13 r0 b1_0=if x13 < x1 then((Zbe.f x13 x1).bind fun t75=>if t75=1 then(if x9 > 0 then((ZaJ.f x2).bind fun t88=>if t88.length+([x13]:List Int).length≤17592186044416 then((ZV.f n b1_0 x1 (t88++([x13]:List Int)) r0).bind fun t93=>ZV.l2 n x1 x2 x9 (wrapI (x13+1)) t93 b1_0)else none)else(if x13=1 then((ZaJ.f x2).bind fun t88=>if t88.length+([x13]:List Int).length≤17592186044416 then((ZV.f n b1_0 x1 (t88++([x13]:List Int)) r0).bind fun t93=>ZV.l2 n x1 x2 x9 (wrapI (x13+1)) t93 b1_0)else none)else(ZV.l2 n x1 x2 x9 (wrapI (x13+1)) r0 b1_0)))else(ZV.l2 n x1 x2 x9 (wrapI (x13+1)) r0 b1_0))else(some r0):=(Zv _ _ _ _).trans (by kernel_rfl)
theorem ZV.vn:∀n,Valid Tryz.prog 289 (ZV.cn n)
 | 0=>Zfc ⟨_,Tryz.func289,by kernel_rfl,by kernel_rfl⟩
 | n+1=>Zey (f:=ZV.fn) (E:=ZV.E (ZV.cn n)) (enc:=ZV.enc) ⟨ttOk,(Zs (ZV.vn n) (Zs ZaJ.valid (Zs Zbe.valid Zaq)))⟩ (Checked.mixed Tryz.checked) ⟨Tryz.func289,by kernel_rfl,by kernel_rfl,by kernel_rfl,by kernel_rfl,of_decide_eq_true (by kernel_rfl),by kernel_rfl,by kernel_rfl⟩ (fun _=>rfl)
noncomputable def ZV.con:Con:=ZV.cn fuel
theorem ZV.valid:Valid Tryz.prog 289 ZV.con:=ZV.vn fuel
end Go.Proofs.YthmcpmnhdbeahaaGreat.P
namespace Go.Proofs.YthmcpmnhdbeahaaGreat.P
open Go Go.RowKit Go.Proofs.YthmcpmnhdbeahaaGreat.D
noncomputable def ZbK.E:Env:={ tt:=TT,con:=[(289,ZV.con)],frz:=[7],rows:=[8],live:=[],n:=10,pin:=0,nils:=[] }
noncomputable def ZbK.fn:D.Fn:={ body:=Tryz.f255.body.getD .skip,res:=Tryz.f255.results.toList,ins:=[.agg [.v (.sl 27 (.sl 2 (.int .i64)))],.one (.v (.int .i64))],outs:=[.one (.own 29 false (.pr (.int .i64) (.sl 2 (.int .i64))))] }
def ZbK.enc (y:lsd (flats ZbK.fn.outs)×lsd (ios ZbK.fn.ins)):(List (Int×(List Int))):=y.1.1
noncomputable def ZbK.f (l0_0:List (List Int)) (a1:Int):Option (List (Int×(List Int))):=denF ZbK.E ZbK.fn ZbK.enc (l0_0,a1,())
theorem ZbK.f_eq (l0_0:List (List Int)) (a1:Int):ZbK.f l0_0 a1=(ZV.f fuel l0_0 a1 ([]:List Int) ([]:List (Int×(List Int)))).bind fun t9=>some t9:=by kernel_rfl
noncomputable def ZbK.con:Con:=⟨ZbK.fn.ins,ZbK.fn.outs,(List (Int×(List Int))),fun x=>ZbK.f x.1 x.2.1,fun r=>((r,()),(()))⟩
theorem ZbK.valid:Valid Tryz.prog 255 ZbK.con:=fnV ZbK.fn ZbK.E ZbK.enc ⟨ttOk,(Zs ZV.valid Zaq)⟩ Tryz.func255
end Go.Proofs.YthmcpmnhdbeahaaGreat.P
namespace Go.Proofs.YthmcpmnhdbeahaaGreat.P
open Go Go.RowKit Go.Proofs.YthmcpmnhdbeahaaGreat.D
noncomputable def Zbr.E:Env:={ tt:=TT,con:=[(255,ZbK.con),(174,Zac.con)],frz:=[],rows:=[],live:=[],n:=18,pin:=1,nils:=[] }
noncomputable def Zbr.fn:D.Fn:={ body:=Tryz.f197.body.getD .skip,res:=Tryz.f197.results.toList,ins:=[.ptr false 143 [.v (.sl 5 (.int .u8)),.v (.int .i64),.v (.int .u64)],.agg [.v (.sl 27 (.sl 2 (.int .i64)))],.one (.v (.int .i64))],outs:=[.agg [.v (.int .i64),.v (.sl 2 (.int .i64))]] }
def Zbr.enc (y:lsd (flats Zbr.fn.outs)×lsd (ios Zbr.fn.ins)):Int×(List Int)×(List Int)×Int×Int:=(y.1.1,y.1.2.1,y.2.1,y.2.2.1,y.2.2.2.1)
noncomputable def Zbr.f (l0_0:List Int) (a0_1:Int) (a0_2:Int) (l1_0:List (List Int)) (a2:Int):Option (Int×(List Int)×(List Int)×Int×Int):=denF Zbr.E Zbr.fn Zbr.enc (l0_0,a0_1,a0_2,l1_0,a2,())
theorem Zbr.f_eq (l0_0:List Int) (a0_1:Int) (a0_2:Int) (l1_0:List (List Int)) (a2:Int):Zbr.f l0_0 a0_1 a0_2 l1_0 a2=(ZbK.f l1_0 a2).bind fun t10=>(Zac.f l0_0 a0_1 a0_2 (t10.length:Int)).bind fun t15=>if 0≤t15.1 then(if t15.1 < (t10.length:Int)then(if 0≤t15.1 then(if t15.1 < (t10.length:Int)then(some ((Ty.rd (.pr (.int .i64) (.sl 2 (.int .i64))) t10 t15.1).1,(Ty.rd (.pr (.int .i64) (.sl 2 (.int .i64))) t10 t15.1).2,t15.2.1,t15.2.2.1,t15.2.2.2))else none)else none)else none)else none:=by kernel_rfl
noncomputable def Zbr.con:Con:=⟨Zbr.fn.ins,Zbr.fn.outs,Int×(List Int)×(List Int)×Int×Int,fun x=>Zbr.f x.1 x.2.1 x.2.2.1 x.2.2.2.1 x.2.2.2.2.1,fun r=>((r.1,r.2.1,()),(r.2.2.1,r.2.2.2.1,r.2.2.2.2,()))⟩
theorem Zbr.valid:Valid Tryz.prog 197 Zbr.con:=fnV Zbr.fn Zbr.E Zbr.enc ⟨ttOk,(Zs ZbK.valid (Zs Zac.valid Zaq))⟩ Tryz.func197
end Go.Proofs.YthmcpmnhdbeahaaGreat.P
namespace Go.Proofs.YthmcpmnhdbeahaaGreat.P
open Go Go.RowKit Go.Proofs.YthmcpmnhdbeahaaGreat.D
noncomputable def Z6.E:Env:={ tt:=TT,con:=[],frz:=[],rows:=[],live:=[(3,[0,2,3,4]),(7,[0,2,3,4,5,6])],n:=35,pin:=0,nils:=[] }
noncomputable def Z6.fn:D.Fn:={ body:=Tryz.f285.body.getD .skip,res:=Tryz.f285.results.toList,ins:=[.one (.v (.int .i64))],outs:=[.agg [.own 27 true (.sl 2 (.int .i64))]] }
def Z6.enc (y:lsd (flats Z6.fn.outs)×lsd (ios Z6.fn.ins)):(List (List Int)):=y.1.1
noncomputable def Z6.f (a0:Int):Option (List (List Int)):=denF Z6.E Z6.fn Z6.enc (a0,())
noncomputable def Z6.l0 (x0:Int) (x4:Int) (r2:List (List Int)):Option (List (List Int)):=denAt Z6.E Z6.fn Z6.enc [1,1,0,1,0] { fr:=[(0,.lf (.int .i64 x0)),(2,.lf (.box 0 0)),(3,.lf (.box 1 0)),(4,.lf (.int .i64 x4))],ob:=[(0,.box 26 false [.nil]),(1,.box 26 false [.own 2]),(2,.row 27 true (.sl 2 (.int .i64)) r2)],nx:=3 }
noncomputable def Z6.l1 (x0:Int) (x4:Int) (x6:Int) (r2:List Int) (r3:List (List Int)):Option (List (List Int)):=denAt Z6.E Z6.fn Z6.enc [1,1,0,1,0,0,1,0,0,1,0,1,0] { fr:=[(0,.lf (.int .i64 x0)),(2,.lf (.box 0 0)),(3,.lf (.box 1 0)),(4,.lf (.int .i64 x4)),(5,.lf (.own 2)),(6,.lf (.int .i64 x6))],ob:=[(0,.box 26 false [.nil]),(1,.box 26 false [.own 3]),(2,.row 2 true (.int .i64) r2),(3,.row 27 true (.sl 2 (.int .i64)) r3)],nx:=4 }
theorem Z6.f_eq (a0:Int):Z6.f a0=Z6.l0 a0 0 ([]:List (List Int)):=by kernel_rfl
theorem Z6.l0_eq (x0:Int) (x4:Int) (r2:List (List Int)):Z6.l0 x0 x4 r2=if x4 < x0 then(Z6.l1 x0 x4 0 ([]:List Int) r2)else(some r2):=(Zv _ _ _ _).trans (by kernel_rfl)
theorem Z6.l1_eq (x0:Int) (x4:Int) (x6:Int) (r2:List Int) (r3:List (List Int)):Z6.l1 x0 x4 x6 r2 r3=if x6 < x0 then(if x0=0 then none else(if r2.length+([(wrapI (x4+x6):Int).tmod x0]:List Int).length≤17592186044416 then(Z6.l1 x0 x4 (wrapI (x6+1)) (r2++([(wrapI (x4+x6):Int).tmod x0]:List Int)) r3)else none))else(if r3.length+([r2]:List (List Int)).length≤5864062014805 then(Z6.l0 x0 (wrapI (x4+1)) (r3++([r2]:List (List Int))))else none):=(Zv _ _ _ _).trans (by kernel_rfl)
noncomputable def Z6.con:Con:=⟨Z6.fn.ins,Z6.fn.outs,(List (List Int)),fun x=>Z6.f x.1,fun r=>((r,()),(()))⟩
theorem Z6.valid:Valid Tryz.prog 285 Z6.con:=fnV Z6.fn Z6.E Z6.enc ⟨ttOk,Zaq⟩ Tryz.func285
end Go.Proofs.YthmcpmnhdbeahaaGreat.P
