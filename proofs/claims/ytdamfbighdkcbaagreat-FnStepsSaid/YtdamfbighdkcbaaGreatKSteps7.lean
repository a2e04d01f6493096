/- What the proof of the law Steps stands on, part 7: words, each Go function's Lean function, and that the Go code comes to its answers; no condition. (Packed by wip/myprint/pack.py out of what the kit's printer wrote, its words among it, partly by our patches of it, and out of texts of this session.) -/
import Derived.ChangeSlices
import Derived.ChangeSame
import Derived.Deep.Matrix
import Derived.Lib.SmallJoins
import Derived.Test.YtdamfbighdkcbaaGreatKSteps3
import Derived.Test.YtdamfbighdkcbaaGreatKSteps4
import Derived.Test.YtdamfbighdkcbaaGreatKSteps5
import Derived.Test.YtdamfbighdkcbaaGreatKSteps6
set_option linter.unusedVariables false
set_option linter.unusedSimpArgs false
namespace Go.Proofs.YtdamfbighdkcbaaGreat.D
open Go Go.RowKit
theorem ZkW {P:Program} {g:FuncId} {c:Con} (hv:Valid P g c) {x:lsd (flats c.ins)} {r:c.R} (hx:c.f x=some r) {w:World} {vs:List Value} (ha:ASRs P (λ _=>False) (λ k=>k < w.heap.size) w c.ins x vs (λ _=>False)) :
  Calls P g vs.toArray w λ e w' => ∃u,e = .returned u/\Below w.heap.size w w' /\ ∃Z' Fo us,u=outV us/\ASRs P (λ _=>False) Z' w' c.outs (c.dec r).1 us Fo:=by
 refine(hv.2 x r hx (λ k=>k < w.heap.size) (λ _=>False) (λ _=>False) w vs ha (λ _ h=>h.elim) (λ _ h=>h) (λ _ h=>h.elim)).mono ?_;rintro e w' ⟨u,rfl,Z', Fi,Fo,hp⟩;obtain⟨us,hu,ho⟩:=hp.out;exact⟨u,rfl,⟨hp.os,hp.tape,hp.output,hp.size,λ k hk=>hp.old k hk λ h=>h⟩,Z', Fo,us,hu,ho⟩
theorem ZnV {w:World} {a:Addr} {v:Value} (h:w.cell? a=some v):a.block < w.heap.size:=by
 unfold World.cell? at h
 cases hb:w.heap[a.block]? with
 | none=>rw[hb]at h;cases h
 | some o=>exact(Array.getElem?_eq_some_iff.1 hb).1
theorem Znn {α : Type} {w:World} {sz:Nat} {R : α -> List Value->Prop} {A:Option Addr} {c:Nat} {xs:List α} (hz:0 < sz) (hc:xs.length<=c) (hm:xs.length<=9223372036854775807)
  (h:0 < xs.length->∃ad,A=some ad/\∀(j:Nat) (p : α),xs[j]? = some p->∃cs,cs.length=sz/\R p cs/\∀(i:Nat) (u:Value),cs[i]? = some u->w.cell? (ad.add (j*sz+i))=some u):Zdk (λ k=>k < w.heap.size) w sz R A c xs:=by
 refine⟨hc,hm,λ hl => ?_⟩;obtain⟨ad,rfl,hcell⟩:=h hl;refine⟨ad,rfl,?_,hcell⟩;obtain⟨cs,h1,h2,h3⟩:=hcell 0 xs[0] (List.getElem?_eq_getElem hl);have:=ZnV (h3 0 cs[0] (List.getElem?_eq_getElem (by omega)));rwa[ZdI]at this
theorem Zm1 {P:Program} {g:FuncId} {c:Con} (hv:Valid P g c) {x:lsd (flats c.ins)} {r:c.R} (hx:c.f x=some r) {w:World} {vs:List Value} (ha:ASRs P (λ _=>False) (λ k=>k < w.heap.size) w c.ins x vs (λ _=>False)) (ho:c.outs=[.one (.v .bool)]) (hr:∀y:lsd (flats [.one (.v .bool)]),HEq y (c.dec r).1->y.1=true) :
  Calls P g vs.toArray w λ e w' => e = .returned (.bool true)/\Below w.heap.size w w' := by
 refine(ZkW hv hx ha).mono ?_;rintro e w' ⟨u,rfl,hb,Z', Fo,us,rfl,hh⟩;refine⟨?_,hb⟩;obtain⟨ins,outs,R,f,dec⟩:=c;have ho:outs=[.one (.v .bool)]:=ho;subst ho;obtain⟨v,vs', F0,F1,rfl,h1,h2,_⟩:=hh
 cases h2
 have h1:[v]=[.bool (dec r).1.1]:=h1;have hb1:(dec r).1.1=true:=hr _ HEq.rfl
 cases h1
 rw[hb1]
 rfl
open Go Go.RowKit Go.ChangeShapes Go.WideShapes Go.Joins Go.Deep
section
variable {H:Type} {enc:TypeId×Value->H} {P:Program} {w:World} {base:Nat} {held:Bool}
abbrev Zw (w:World):Nat->Prop:=λ k=>k < w.heap.size
abbrev No:Nat->Prop:=λ _=>False
theorem Zm9 {q:TypeId} (hn:nf q=false) {k:IntKind} {a:Addr} {len cap:Nat} {zs:List Int} (hl:len<=cap) (hm:cap<=maxLen) (hz:zs.length=cap) (hc:∀i,i < zs.length->w.cell? (a.add i)=some (.int k (zs.getD i 0))) (hw:∀n∈zs,(Lit.int k n).wf=true) :
  ∃l:List Int,len=l.length/\l.length<=maxLen/\(∀x∈l,(Lit.int k x).wf=true)/\Rep (Zw w) w false (.sl q (.int k)) l [.slice (some a) len cap] No:=by
 have hlen:(zs.take len).length=len:=by rw[List.length_take];omega
 refine⟨zs.take len,hlen.symm,by omega,λ x hx=>hw x (List.mem_of_mem_take hx),some a,cap,by rw[hlen],?_,λ h=>by rw[hn]at h;cases h⟩
 refine Znn Nat.one_pos (by show(zs.take len).length<=_;omega) (by show(zs.take len).length<=_;simp only[maxLen]at hm;omega) λ _=>⟨a,rfl,λ j p hj => ?_⟩
 have hj:(zs.take len)[j]? = some p:=hj;have hjl:j < len:=by have:=(List.getElem?_eq_some_iff.1 hj).1;omega
 refine⟨[.int k p],rfl,rfl,λ i u hu => ?_⟩
 cases i with
 | zero =>
  simp only[List.getElem?_cons_zero,Option.some.injEq]at hu;subst hu;have h:=hc j (by omega);have hp:zs.getD j 0=p:=by rw[List.getElem?_take]at hj;simp only[hjl,if_true]at hj;simp[List.getD,hj]
  rw[hp]at h
  simpa [Ty.size] using h
 | succ i=>simp at hu
theorem Zna {q:TypeId} {t:Ty}:Rep (Zw w) w false (.sl q t) ([]:List t.den) [.slice none 0 0] No :=
 ⟨none,0,rfl,⟨Nat.le_refl _,Nat.zero_le _,λ h=>absurd h (by simp)⟩,λ _ _=>rfl⟩
theorem Zlk {t e:TypeId} {k:IntKind} {fuel:Nat} {v:Value} {x:DataW H×List MemPlace} (ht:P.underlying t=some (.slice e)) (he:P.underlying e=some (.int k)) (hc:P.cellsOf e=1)
  (h:DataW.trod enc P w base (λ _=>true) held fuel t [v]=some x) (hn:nf e=false:=by rfl) :
  ∃l:List Int,l.length<=maxLen/\(∀x∈l,(Lit.int k x).wf=true)/\Rep (Zw w) w false (.sl e (.int k)) l [v] No:=by
 rcases open_ints ht he hc h with ⟨hcs,_⟩|⟨a,len,cap,zs,hcs,_,hl,hm,hz,_,hcell,hw⟩
 ·refine⟨[],by simp,by simp,?_⟩;rw[hcs];exact Zna
 ·simp only[if_true]at hz;obtain⟨l,h1,h2,h3,h4⟩:=Zm9 (q:=e) hn hl hm hz hcell hw;exact⟨l,h2,h3,by rw[hcs];exact h4⟩
theorem ZmC:ASRs P No (Zw w) w [] () [] No:=rfl
theorem ZmD {t:Ty} {x:t.den} {v:Value} {ins:List ASh} {y:lsd (flats ins)} {vs:List Value} (h:Rep (Zw w) w false t x [v] No) (hr:ASRs P No (Zw w) w ins y vs No):ASRs P No (Zw w) w (.one (.v t) :: ins) (x,y) (v :: vs) No :=
 ⟨v,vs,No,No,rfl,h,hr,λ _ h=>h,λ _ h=>h,λ _ h=>h.elim⟩
end
theorem ZkU {P:Program} {g:FuncId} {k k' : IntKind} {F:Int->Option Int} (hc:Callable P g) (h:∀(x y:Int) (w:World),F x=some y->Calls P g #[.int k x] w λ e w' => e = .returned (.int k' y)/\w' = w) :
  Valid P g ⟨[.one (.v (.int k))],[.one (.v (.int k'))],Int,λ x=>F x.1,λ r=>((r,()),())⟩:=by
 refine⟨hc,λ x r hx Z B S w vs ha hS hZ hB => ?_⟩;obtain⟨v,vs', F0,F1,rfl,h1,h2,_⟩:=ha
 cases h2
 have h1:[v]=[.int k x.1]:=h1
 cases h1
 refine(h x.1 r w hx).mono ?_;rintro e w' ⟨rfl,rfl⟩;refine⟨_,rfl,Z,λ _=>False,λ _=>False,⟨⟨_,[],λ _=>False,λ _=>False,rfl,trivial,trivial,λ _ h=>h,λ _ h=>h,λ _ h=>h.elim⟩,⟨[.int k' r],rfl,_,[],λ _=>False,λ _=>False,rfl,rfl,rfl,λ _ h=>h,λ _ h=>h,λ _ h=>h.elim⟩,λ _ h=>h.elim,λ _ h=>(h.elim id id:False).elim,λ _ h=>h,λ k hk=>⟨.inl hk,hZ k hk⟩,rfl,rfl,rfl,Nat.le_refl _,λ _ _ _=>rfl⟩⟩
end Go.Proofs.YtdamfbighdkcbaaGreat.D
namespace Go.Proofs.YtdamfbighdkcbaaGreat.P
open Go Go.RowKit Go.Proofs.YtdamfbighdkcbaaGreat.D
noncomputable def bits_Len.f (a0:Int):Option Int:=if 0<=a0/\a0<=18446744073709551615 then some (Lib.bitLen a0.toNat:Int)else none
noncomputable def bits_Len.con:Con:=⟨[.one (.v (.int .u64))],[.one (.v (.int .i64))],Int,λ x=>bits_Len.f x.1,λ r=>((r,()),(()))⟩
theorem bits_Len.valid:Valid Tryz.prog 142 bits_Len.con:=ZkU ⟨_,Tryz.func142,by kernel_rfl,by kernel_rfl⟩ λ x y w h=>by
 unfold bits_Len.f at h
 split at h
 ·
  cases h
  exact P.Tryz.bits_Len x w (by omega) (by omega)
 ·cases h
end Go.Proofs.YtdamfbighdkcbaaGreat.P
set_option maxRecDepth 100000
namespace Go.Proofs.YtdamfbighdkcbaaGreat.P
open Go Go.RowKit Go.Proofs.YtdamfbighdkcbaaGreat.D
noncomputable def Zaw.E:Env:={ tt:=TT,con:=[(142,bits_Len.con),(141,Zp.con)],frz:=[],rows:=[],live:=[],n:=11,pin:=1,nils:=[] }
noncomputable def Zaw.fn:D.Fn:={ body:=Tryz.f114.body.getD .skip,res:=Tryz.f114.results.toList,ins:=[.one (.own 2 true (.int .i64))],outs:=[] }
def Zaw.enc (y:lsd (flats Zaw.fn.outs)×lsd (ios Zaw.fn.ins)):(List Int):=y.2.1
noncomputable def Zaw.f (l0:List Int):Option (List Int):=denF Zaw.E Zaw.fn Zaw.enc (l0,())
theorem Zaw.f_eq (l0:List Int):Zaw.f l0=(bits_Len.f (wr .u64 (l0.length:Int))).bind λ t9=>(Zp.f l0 0 (l0.length:Int) t9).bind λ t10=>some t10:=by kernel_rfl
noncomputable def Zaw.con:Con:=⟨Zaw.fn.ins,Zaw.fn.outs,(List Int),λ x=>Zaw.f x.1,λ r=>((()),(r,()))⟩
theorem Zaw.valid:Valid Tryz.prog 114 Zaw.con:=fnV Zaw.fn Zaw.E Zaw.enc ⟨ttOk,(Zo bits_Len.valid (Zo Zp.valid Zat))⟩ Tryz.func114
noncomputable def Zi.E:Env:={ tt:=TT,con:=[(110,Zj.con),(112,Za.con),(111,Zt.con),(113,ZW.con),(114,Zaw.con)],frz:=[36],rows:=[],live:=[(3,[0,1,5,19,20,21]),(10,[0,5,8,36,37,38]),(14,[0,5,8,10,11,36,37,38,43,44,45])],n:=74,pin:=0,nils:=[25] }
noncomputable def Zi.fn:D.Fn:={ body:=Tryz.f82.body.getD .skip,res:=Tryz.f82.results.toList,ins:=[.ptr true 102 [.v (.int .i64),.v (.sl 25 (.sl 1000002 (.int .i64)))],.ptr true 102 [.v (.int .i64),.v (.sl 25 (.sl 1000002 (.int .i64)))]],outs:=[.one (.own 2 true (.int .i64))] }
def Zi.enc (y:lsd (flats Zi.fn.outs)×lsd (ios Zi.fn.ins)):(List Int):=y.1.1
noncomputable def Zi.f (a0_0:Int) (l0_1:List (List Int)) (a1_0:Int) (l1_1:List (List Int)):Option (List Int):=denF Zi.E Zi.fn Zi.enc (a0_0,l0_1,a1_0,l1_1,())
noncomputable def Zi.l0 (x19:List (List Int)) (x20:Int) (x21:Int) (b0_0:Int) (b0_1:List (List Int)) (b1_0:Int) (b1_1:List (List Int)) (r2:List Int):Option (List Int):=denAt Zi.E Zi.fn Zi.enc [1,1,0,1,0] { fr:=[(0,.lf (.box 0 0)),(1,.lf (.box 1 0)),(5,.lf (.own 2)),(19,.lf (.sl (.sl 1000002 (.int .i64)) x19)),(20,.lf (.int .i64 x20)),(21,.lf (.int .i64 x21))],ob:=[(0,.box 102 true [.int .i64 b0_0,.sl (.sl 1000002 (.int .i64)) b0_1]),(1,.box 102 true [.int .i64 b1_0,.sl (.sl 1000002 (.int .i64)) b1_1]),(2,.row 3 true (.int .i64) r2)],nx:=3 }
noncomputable def Zi.l1 (x36:List (List Int)) (x37:Int) (x38:Int) (b0_0:Int) (b0_1:List (List Int)) (r1:List Int) (r2:List (List Int)):Option (List Int):=denAt Zi.E Zi.fn Zi.enc [1,1,1,1,0,1,0] { fr:=[(0,.lf (.box 0 0)),(5,.lf (.own 1)),(8,.lf (.own 2)),(36,.lf (.sl (.sl 2 (.int .i64)) x36)),(37,.lf (.int .i64 x37)),(38,.lf (.int .i64 x38))],ob:=[(0,.box 102 true [.int .i64 b0_0,.sl (.sl 1000002 (.int .i64)) b0_1]),(1,.row 3 true (.int .i64) r1),(2,.row 25 true (.sl 2 (.int .i64)) r2)],nx:=3 }
noncomputable def Zi.l2 (x10:List Int) (x36:List (List Int)) (x37:Int) (x38:Int) (x44:Int) (x45:Int) (b0_0:Int) (b0_1:List (List Int)) (r1:List Int) (r2:List (List Int)) (r3:List Int):Option (List Int):=denAt Zi.E Zi.fn Zi.enc [1,1,1,1,0,1,0,0,1,1,0,0,1,1,0,1,0] { fr:=[(0,.lf (.box 0 0)),(5,.lf (.own 1)),(8,.lf (.own 2)),(10,.lf (.sl (.int .i64) x10)),(11,.lf (.own 3)),(36,.lf (.sl (.sl 2 (.int .i64)) x36)),(37,.lf (.int .i64 x37)),(38,.lf (.int .i64 x38)),(43,.lf (.own 1)),(44,.lf (.int .i64 x44)),(45,.lf (.int .i64 x45))],ob:=[(0,.box 102 true [.int .i64 b0_0,.sl (.sl 1000002 (.int .i64)) b0_1]),(1,.row 3 true (.int .i64) r1),(2,.row 25 true (.sl 2 (.int .i64)) r2),(3,.row 2 true (.int .i64) r3)],nx:=4 }
theorem Zi.f_eq (a0_0:Int) (l0_1:List (List Int)) (a1_0:Int) (l1_1:List (List Int)):Zi.f a0_0 l0_1 a1_0 l1_1=Zi.l0 l0_1 (l0_1.length:Int) 0 a0_0 l0_1 a1_0 l1_1 ([]:List Int):=by kernel_rfl
theorem Zi.l0_eq (x19:List (List Int)) (x20:Int) (x21:Int) (b0_0:Int) (b0_1:List (List Int)) (b1_0:Int) (b1_1:List (List Int)) (r2:List Int):Zi.l0 x19 x20 x21 b0_0 b0_1 b1_0 b1_1 r2=if x21 < x20 then(if 0<=x21 then(if x21 < (x19.length:Int)then(if(row x19 x21).length=0 then(Zi.l0 x19 x20 (wrapI (x21+1)) b0_0 b0_1 b1_0 b1_1 r2)else(if 0 < (row x19 x21).length then(if r2.length+([x21]:List Int).length<=17592186044416 then(Zi.l0 x19 x20 (wrapI (x21+1)) b0_0 b0_1 b1_0 b1_1 (r2++([x21]:List Int)))else none)else none))else none)else none)else((Zj.f b0_0 b0_1 b1_0 b1_1).bind λ t36=>Zi.l1 t36 (t36.length:Int) 0 b0_0 b0_1 r2 ([]:List (List Int))):=(Zm _ _ _ _).trans (by kernel_rfl)
theorem Zi.l1_eq (x36:List (List Int)) (x37:Int) (x38:Int) (b0_0:Int) (b0_1:List (List Int)) (r1:List Int) (r2:List (List Int)):Zi.l1 x36 x37 x38 b0_0 b0_1 r1 r2=if x38 < x37 then(if 0<=x38 then(if x38 < (x36.length:Int)then(Zi.l2 (row x36 x38) x36 x37 x38 (r1.length:Int) 0 b0_0 b0_1 r1 r2 ([]:List Int))else none)else none)else((Za.f b0_0 r2 (r1.length:Int)).bind λ t69=>(Zt.f t69.1 (λ z0=>(ZW.f z0).map λ z=>z)).bind λ t70=>(Zaw.f t70).bind λ t72=>some t72):=(Zm _ _ _ _).trans (by kernel_rfl)
theorem Zi.l2_eq (x10:List Int) (x36:List (List Int)) (x37:Int) (x38:Int) (x44:Int) (x45:Int) (b0_0:Int) (b0_1:List (List Int)) (r1:List Int) (r2:List (List Int)) (r3:List Int):Zi.l2 x10 x36 x37 x38 x44 x45 b0_0 b0_1 r1 r2 r3=if x45 < x44 then(if 0<=x45 then(if x45 < (r1.length:Int)then(if 0<=x45 then(if x45 < (r1.length:Int)then(if 0<=rd r1 x45 then(if rd r1 x45 < (x10.length:Int)then(if r3.length+([rd x10 (rd r1 x45)]:List Int).length<=17592186044416 then(Zi.l2 x10 x36 x37 x38 x44 (wrapI (x45+1)) b0_0 b0_1 r1 r2 (r3++([rd x10 (rd r1 x45)]:List Int)))else none)else none)else none)else none)else none)else none)else none)else(if r2.length+([r3]:List (List Int)).length<=5864062014805 then(Zi.l1 x36 x37 (wrapI (x38+1)) b0_0 b0_1 r1 (r2++([r3]:List (List Int))))else none):=(Zm _ _ _ _).trans (by kernel_rfl)
noncomputable def Zi.con:Con:=⟨Zi.fn.ins,Zi.fn.outs,(List Int),λ x=>Zi.f x.1 x.2.1 x.2.2.1 x.2.2.2.1,λ r=>((r,()),(()))⟩
theorem Zi.valid:Valid Tryz.prog 82 Zi.con:=fnV Zi.fn Zi.E Zi.enc ⟨ttOk,(Zo Zj.valid (Zo Za.valid (Zo Zt.valid (Zo ZW.valid (Zo Zaw.valid Zat)))))⟩ Tryz.func82
noncomputable def ZaB.E:Env:={ tt:=TT,con:=[(50,ZaQ.con),(54,ZY.con),(82,Zi.con)],frz:=[],rows:=[],live:=[],n:=16,pin:=0,nils:=[] }
noncomputable def ZaB.fn:D.Fn:={ body:=Tryz.f46.body.getD .skip,res:=Tryz.f46.results.toList,ins:=[.agg [.v (.sl 25 (.sl 2 (.int .i64)))],.agg [.v (.int .i64),.v (.sl 2 (.int .i64))],.one (.v (.int .i64))],outs:=[.one (.own 2 true (.int .i64))] }
def ZaB.enc (y:lsd (flats ZaB.fn.outs)×lsd (ios ZaB.fn.ins)):(List Int):=y.1.1
noncomputable def ZaB.f (l0_0:List (List Int)) (a1_0:Int) (l1_1:List Int) (a2:Int):Option (List Int):=denF ZaB.E ZaB.fn ZaB.enc (l0_0,a1_0,l1_1,a2,())
theorem ZaB.f_eq (l0_0:List (List Int)) (a1_0:Int) (l1_1:List Int) (a2:Int):ZaB.f l0_0 a1_0 l1_1 a2=(ZaQ.f l0_0 a1_0 l1_1 a2).bind λ t10=>(ZY.f l0_0 a1_0 l1_1 a2).bind λ t14=>(Zi.f t10.1 t10.2 t14.1 t14.2).bind λ t15=>some t15:=by kernel_rfl
noncomputable def ZaB.con:Con:=⟨ZaB.fn.ins,ZaB.fn.outs,(List Int),λ x=>ZaB.f x.1 x.2.1 x.2.2.1 x.2.2.2.1,λ r=>((r,()),(()))⟩
theorem ZaB.valid:Valid Tryz.prog 46 ZaB.con:=fnV ZaB.fn ZaB.E ZaB.enc ⟨ttOk,(Zo ZaQ.valid (Zo ZY.valid (Zo Zi.valid Zat)))⟩ Tryz.func46
noncomputable def Zaq.E:Env:={ tt:=TT,con:=[(45,ZaC.con),(46,ZaB.con)],frz:=[],rows:=[],live:=[],n:=20,pin:=0,nils:=[] }
noncomputable def Zaq.fn:D.Fn:={ body:=Tryz.f11.body.getD .skip,res:=Tryz.f11.results.toList,ins:=[.agg [.v (.sl 25 (.sl 2 (.int .i64)))],.agg [.v (.int .i64),.v (.sl 2 (.int .i64))],.one (.v (.int .i64))],outs:=[.one (.own 2 true (.int .i64)),.one (.v (.int .i64))] }
def Zaq.enc (y:lsd (flats Zaq.fn.outs)×lsd (ios Zaq.fn.ins)):(List Int)×Int:=(y.1.1,y.1.2.1)
noncomputable def Zaq.f (l0_0:List (List Int)) (a1_0:Int) (l1_1:List Int) (a2:Int):Option ((List Int)×Int):=denF Zaq.E Zaq.fn Zaq.enc (l0_0,a1_0,l1_1,a2,())
theorem Zaq.f_eq (l0_0:List (List Int)) (a1_0:Int) (l1_1:List Int) (a2:Int):Zaq.f l0_0 a1_0 l1_1 a2=(ZaC.f l0_0 a1_0 l1_1 a2).bind λ t12=>if t12=0 then((ZaB.f l0_0 a1_0 l1_1 a2).bind λ t19=>some (t19,0))else(some (([]:List Int),t12)):=by kernel_rfl
noncomputable def Zaq.con:Con:=⟨Zaq.fn.ins,Zaq.fn.outs,(List Int)×Int,λ x=>Zaq.f x.1 x.2.1 x.2.2.1 x.2.2.2.1,λ r=>((r.1,r.2,()),(()))⟩
theorem Zaq.valid:Valid Tryz.prog 11 Zaq.con:=fnV Zaq.fn Zaq.E Zaq.enc ⟨ttOk,(Zo ZaC.valid (Zo ZaB.valid Zat))⟩ Tryz.func11
noncomputable def ZbC.E:Env:={ tt:=TT,con:=[],frz:=[],rows:=[],live:=[],n:=6,pin:=0,nils:=[] }
noncomputable def ZbC.fn:D.Fn:={ body:=Tryz.f19.body.getD .skip,res:=Tryz.f19.results.toList,ins:=[.one (.v (.sl 5 (.int .u8)))],outs:=[.one (.v .bool)] }
def ZbC.enc (y:lsd (flats ZbC.fn.outs)×lsd (ios ZbC.fn.ins)):Bool:=y.1.1
noncomputable def ZbC.f (l0:List Int):Option Bool:=denF ZbC.E ZbC.fn ZbC.enc (l0,())
theorem ZbC.f_eq (l0:List Int):ZbC.f l0=some (decide ((l0.length:Int) > 4096)):=by kernel_rfl
noncomputable def ZbC.con:Con:=⟨ZbC.fn.ins,ZbC.fn.outs,Bool,λ x=>ZbC.f x.1,λ r=>((r,()),(()))⟩
theorem ZbC.valid:Valid Tryz.prog 19 ZbC.con:=fnV ZbC.fn ZbC.E ZbC.enc ⟨ttOk,Zat⟩ Tryz.func19
noncomputable def ZaP.E:Env:={ tt:=TT,con:=[],frz:=[],rows:=[],live:=[(3,[0,3,4])],n:=38,pin:=0,nils:=[] }
noncomputable def ZaP.fn:D.Fn:={ body:=Tryz.f62.body.getD .skip,res:=Tryz.f62.results.toList,ins:=[.one (.v (.sl 5 (.int .u8)))],outs:=[.ptr false 115 [.v (.sl 5 (.int .u8)),.v (.int .i64),.v (.int .u64)]] }
def ZaP.enc (y:lsd (flats ZaP.fn.outs)×lsd (ios ZaP.fn.ins)):(List Int)×Int×Int:=(y.1.1,y.1.2.1,y.1.2.2.1)
noncomputable def ZaP.f (l0:List Int):Option ((List Int)×Int×Int):=denF ZaP.E ZaP.fn ZaP.enc (l0,())
noncomputable def ZaP.l0 (x0:List Int) (x4:Int) (b0_0:List Int) (b0_1:Int) (b0_2:Int):Option ((List Int)×Int×Int):=denAt ZaP.E ZaP.fn ZaP.enc [1,1,0,1,0] { fr:=[(0,.lf (.sl (.int .u8) x0)),(3,.lf (.box 0 0)),(4,.lf (.int .i64 x4))],ob:=[(0,.box 115 false [.sl (.int .u8) b0_0,.int .i64 b0_1,.int .u64 b0_2])],nx:=1 }
theorem ZaP.f_eq (l0:List Int):ZaP.f l0=ZaP.l0 l0 0 l0 0 (wr .u64 (13631+(wr .u64 (l0.length:Int)))):=by kernel_rfl
theorem ZaP.l0_eq (x0:List Int) (x4:Int) (b0_0:List Int) (b0_1:Int) (b0_2:Int):ZaP.l0 x0 x4 b0_0 b0_1 b0_2=if x4 < (x0.length:Int)then(if x4 < 4096 then(if 0<=x4 then(if x4 < (x0.length:Int)then(ZaP.l0 x0 (wrapI (x4+1)) b0_0 b0_1 (wr .u64 ((wr .u64 ((wr .u64 (b0_2*1099511628211))+(wr .u64 (rd x0 x4))))+197)))else none)else none)else(some (b0_0,b0_1,b0_2)))else(some (b0_0,b0_1,b0_2)):=(Zm _ _ _ _).trans (by kernel_rfl)
noncomputable def ZaP.con:Con:=⟨ZaP.fn.ins,ZaP.fn.outs,(List Int)×Int×Int,λ x=>ZaP.f x.1,λ r=>((r.1,r.2.1,r.2.2,()),(()))⟩
theorem ZaP.valid:Valid Tryz.prog 62 ZaP.con:=fnV ZaP.fn ZaP.E ZaP.enc ⟨ttOk,Zat⟩ Tryz.func62
noncomputable def ZQ.E:Env:={ tt:=TT,con:=[],frz:=[],rows:=[],live:=[],n:=58,pin:=1,nils:=[] }
noncomputable def ZQ.fn:D.Fn:={ body:=Tryz.f63.body.getD .skip,res:=Tryz.f63.results.toList,ins:=[.ptr false 115 [.v (.sl 5 (.int .u8)),.v (.int .i64),.v (.int .u64)],.one (.v (.int .i64))],outs:=[.one (.v (.int .i64))] }
def ZQ.enc (y:lsd (flats ZQ.fn.outs)×lsd (ios ZQ.fn.ins)):Int×(List Int)×Int×Int:=(y.1.1,y.2.1,y.2.2.1,y.2.2.2.1)
noncomputable def ZQ.f (l0_0:List Int) (a0_1:Int) (a0_2:Int) (a1:Int):Option (Int×(List Int)×Int×Int):=denF ZQ.E ZQ.fn ZQ.enc (l0_0,a0_1,a0_2,a1,())
theorem ZQ.f_eq (l0_0:List Int) (a0_1:Int) (a0_2:Int) (a1:Int):ZQ.f l0_0 a0_1 a0_2 a1=if a1 < 1 then(some (0,l0_0,a0_1,a0_2))else(if a0_1 < (l0_0.length:Int)then(if 0<=a0_1 then(if a0_1 < (l0_0.length:Int)then(if a1=0 then none else(some ((wrapI ((wrapI (andI .u64 (shrI .u64 (wr .u64 ((wr .u64 (a0_2*6364136223846793005))+1442695040888963407)) 33) 16777215))+(wrapI (rd l0_0 a0_1))):Int).tmod a1,l0_0,wrapI (a0_1+1),wr .u64 ((wr .u64 (a0_2*6364136223846793005))+1442695040888963407))))else none)else none)else(if a1=0 then none else(some ((wrapI (andI .u64 (shrI .u64 (wr .u64 ((wr .u64 (a0_2*6364136223846793005))+1442695040888963407)) 33) 16777215):Int).tmod a1,l0_0,a0_1,wr .u64 ((wr .u64 (a0_2*6364136223846793005))+1442695040888963407))))):=by kernel_rfl
noncomputable def ZQ.con:Con:=⟨ZQ.fn.ins,ZQ.fn.outs,Int×(List Int)×Int×Int,λ x=>ZQ.f x.1 x.2.1 x.2.2.1 x.2.2.2.1,λ r=>((r.1,()),(r.2.1,r.2.2.1,r.2.2.2,()))⟩
theorem ZQ.valid:Valid Tryz.prog 63 ZQ.con:=fnV ZQ.fn ZQ.E ZQ.enc ⟨ttOk,Zat⟩ Tryz.func63
noncomputable def Zam.E:Env:={ tt:=TT,con:=[(63,ZQ.con)],frz:=[],rows:=[],live:=[],n:=12,pin:=1,nils:=[] }
noncomputable def Zam.fn:D.Fn:={ body:=Tryz.f67.body.getD .skip,res:=Tryz.f67.results.toList,ins:=[.ptr false 115 [.v (.sl 5 (.int .u8)),.v (.int .i64),.v (.int .u64)],.one (.v (.sl 2 (.int .i64)))],outs:=[.one (.v (.int .i64))] }
def Zam.enc (y:lsd (flats Zam.fn.outs)×lsd (ios Zam.fn.ins)):Int×(List Int)×Int×Int:=(y.1.1,y.2.1,y.2.2.1,y.2.2.2.1)
noncomputable def Zam.f (l0_0:List Int) (a0_1:Int) (a0_2:Int) (l1:List Int):Option (Int×(List Int)×Int×Int):=denF Zam.E Zam.fn Zam.enc (l0_0,a0_1,a0_2,l1,())
theorem Zam.f_eq (l0_0:List Int) (a0_1:Int) (a0_2:Int) (l1:List Int):Zam.f l0_0 a0_1 a0_2 l1=(ZQ.f l0_0 a0_1 a0_2 (l1.length:Int)).bind λ t9=>if 0<=t9.1 then(if t9.1 < (l1.length:Int)then(some (rd l1 t9.1,t9.2.1,t9.2.2.1,t9.2.2.2))else none)else none:=by kernel_rfl
noncomputable def Zam.con:Con:=⟨Zam.fn.ins,Zam.fn.outs,Int×(List Int)×Int×Int,λ x=>Zam.f x.1 x.2.1 x.2.2.1 x.2.2.2.1,λ r=>((r.1,()),(r.2.1,r.2.2.1,r.2.2.2,()))⟩
theorem Zam.valid:Valid Tryz.prog 67 Zam.con:=fnV Zam.fn Zam.E Zam.enc ⟨ttOk,(Zo ZQ.valid Zat)⟩ Tryz.func67
noncomputable def ZM.E:Env:={ tt:=TT,con:=[],frz:=[],rows:=[],live:=[(3,[0,2,3,4]),(7,[0,2,3,4,5,6])],n:=35,pin:=0,nils:=[] }
noncomputable def ZM.fn:D.Fn:={ body:=Tryz.f147.body.getD .skip,res:=Tryz.f147.results.toList,ins:=[.one (.v (.int .i64))],outs:=[.agg [.own 25 true (.sl 2 (.int .i64))]] }
def ZM.enc (y:lsd (flats ZM.fn.outs)×lsd (ios ZM.fn.ins)):(List (List Int)):=y.1.1
noncomputable def ZM.f (a0:Int):Option (List (List Int)):=denF ZM.E ZM.fn ZM.enc (a0,())
noncomputable def ZM.l0 (x0:Int) (x4:Int) (r2:List (List Int)):Option (List (List Int)):=denAt ZM.E ZM.fn ZM.enc [1,1,0,1,0] { fr:=[(0,.lf (.int .i64 x0)),(2,.lf (.box 0 0)),(3,.lf (.box 1 0)),(4,.lf (.int .i64 x4))],ob:=[(0,.box 32 false [.nil]),(1,.box 32 false [.own 2]),(2,.row 25 true (.sl 2 (.int .i64)) r2)],nx:=3 }
noncomputable def ZM.l1 (x0:Int) (x4:Int) (x6:Int) (r2:List Int) (r3:List (List Int)):Option (List (List Int)):=denAt ZM.E ZM.fn ZM.enc [1,1,0,1,0,0,1,0,0,1,0,1,0] { fr:=[(0,.lf (.int .i64 x0)),(2,.lf (.box 0 0)),(3,.lf (.box 1 0)),(4,.lf (.int .i64 x4)),(5,.lf (.own 2)),(6,.lf (.int .i64 x6))],ob:=[(0,.box 32 false [.nil]),(1,.box 32 false [.own 3]),(2,.row 2 true (.int .i64) r2),(3,.row 25 true (.sl 2 (.int .i64)) r3)],nx:=4 }
theorem ZM.f_eq (a0:Int):ZM.f a0=ZM.l0 a0 0 ([]:List (List Int)):=by kernel_rfl
theorem ZM.l0_eq (x0:Int) (x4:Int) (r2:List (List Int)):ZM.l0 x0 x4 r2=if x4 < x0 then(ZM.l1 x0 x4 0 ([]:List Int) r2)else(some r2):=(Zm _ _ _ _).trans (by kernel_rfl)
theorem ZM.l1_eq (x0:Int) (x4:Int) (x6:Int) (r2:List Int) (r3:List (List Int)):ZM.l1 x0 x4 x6 r2 r3=if x6 < x0 then(if x0=0 then none else(if r2.length+([(wrapI (x4+x6):Int).tmod x0]:List Int).length<=17592186044416 then(ZM.l1 x0 x4 (wrapI (x6+1)) (r2++([(wrapI (x4+x6):Int).tmod x0]:List Int)) r3)else none))else(if r3.length+([r2]:List (List Int)).length<=5864062014805 then(ZM.l0 x0 (wrapI (x4+1)) (r3++([r2]:List (List Int))))else none):=(Zm _ _ _ _).trans (by kernel_rfl)
noncomputable def ZM.con:Con:=⟨ZM.fn.ins,ZM.fn.outs,(List (List Int)),λ x=>ZM.f x.1,λ r=>((r,()),(()))⟩
theorem ZM.valid:Valid Tryz.prog 147 ZM.con:=fnV ZM.fn ZM.E ZM.enc ⟨ttOk,Zat⟩ Tryz.func147
noncomputable def ZI.E:Env:={ tt:=TT,con:=[(104,Zal.con)],frz:=[],rows:=[],live:=[(3,[2,3,4,5,6,7]),(7,[2,3,4,5,6,7,8,9])],n:=68,pin:=0,nils:=[] }
noncomputable def ZI.fn:D.Fn:={ body:=Tryz.f148.body.getD .skip,res:=Tryz.f148.results.toList,ins:=[.agg [.v (.sl 25 (.sl 2 (.int .i64)))],.agg [.v (.sl 25 (.sl 2 (.int .i64)))]],outs:=[.agg [.own 25 true (.sl 2 (.int .i64))]] }
def ZI.enc (y:lsd (flats ZI.fn.outs)×lsd (ios ZI.fn.ins)):(List (List Int)):=y.1.1
noncomputable def ZI.f (l0_0:List (List Int)) (l1_0:List (List Int)):Option (List (List Int)):=denF ZI.E ZI.fn ZI.enc (l0_0,l1_0,())
noncomputable def ZI.l0 (x5:Int) (x7:Int) (b0_0:List (List Int)) (b1_0:List (List Int)) (r4:List (List Int)):Option (List (List Int)):=denAt ZI.E ZI.fn ZI.enc [1,1,0,1,0] { fr:=[(2,.lf (.box 0 0)),(3,.lf (.box 1 0)),(4,.lf (.box 2 0)),(5,.lf (.int .i64 x5)),(6,.lf (.box 3 0)),(7,.lf (.int .i64 x7))],ob:=[(0,.box 32 false [.sl (.sl 2 (.int .i64)) b0_0]),(1,.box 32 false [.sl (.sl 2 (.int .i64)) b1_0]),(2,.box 32 false [.nil]),(3,.box 32 false [.own 4]),(4,.row 25 true (.sl 2 (.int .i64)) r4)],nx:=5 }
noncomputable def ZI.l1 (x5:Int) (x7:Int) (x9:Int) (b0_0:List (List Int)) (b1_0:List (List Int)) (r4:List Int) (r5:List (List Int)):Option (List (List Int)):=denAt ZI.E ZI.fn ZI.enc [1,1,0,1,0,0,1,0,0,1,0,1,0] { fr:=[(2,.lf (.box 0 0)),(3,.lf (.box 1 0)),(4,.lf (.box 2 0)),(5,.lf (.int .i64 x5)),(6,.lf (.box 3 0)),(7,.lf (.int .i64 x7)),(8,.lf (.own 4)),(9,.lf (.int .i64 x9))],ob:=[(0,.box 32 false [.sl (.sl 2 (.int .i64)) b0_0]),(1,.box 32 false [.sl (.sl 2 (.int .i64)) b1_0]),(2,.box 32 false [.nil]),(3,.box 32 false [.own 5]),(4,.row 2 true (.int .i64) r4),(5,.row 25 true (.sl 2 (.int .i64)) r5)],nx:=6 }
theorem ZI.f_eq (l0_0:List (List Int)) (l1_0:List (List Int)):ZI.f l0_0 l1_0=(Zal.f l1_0).bind λ t11=>ZI.l0 t11 0 l0_0 l1_0 ([]:List (List Int)):=by kernel_rfl
theorem ZI.l0_eq (x5:Int) (x7:Int) (b0_0:List (List Int)) (b1_0:List (List Int)) (r4:List (List Int)):ZI.l0 x5 x7 b0_0 b1_0 r4=(Zal.f b0_0).bind λ t16=>if x7 < (wrapI (t16*x5))then(ZI.l1 x5 x7 0 b0_0 b1_0 ([]:List Int) r4)else(some r4):=(Zm _ _ _ _).trans (by kernel_rfl)
theorem ZI.l1_eq (x5:Int) (x7:Int) (x9:Int) (b0_0:List (List Int)) (b1_0:List (List Int)) (r4:List Int) (r5:List (List Int)):ZI.l1 x5 x7 x9 b0_0 b1_0 r4 r5=(Zal.f b0_0).bind λ t25=>if x9 < (wrapI (t25*x5))then(if x5=0 then none else(if 0<=wrapI ((x7:Int).tdiv x5)then(if wrapI ((x7:Int).tdiv x5) < (b0_0.length:Int)then(if x5=0 then none else(if 0<=wrapI ((x9:Int).tdiv x5)then(if wrapI ((x9:Int).tdiv x5) < ((row b0_0 (wrapI ((x7:Int).tdiv x5))).length:Int)then(if x5=0 then none else(if 0<=(x7:Int).tmod x5 then(if(x7:Int).tmod x5 < (b1_0.length:Int)then(if x5=0 then none else(if 0<=(x9:Int).tmod x5 then(if(x9:Int).tmod x5 < ((row b1_0 ((x7:Int).tmod x5)).length:Int)then(if r4.length+([wrapI ((wrapI (x5*(T b0_0 (wrapI ((x7:Int).tdiv x5)) (wrapI ((x9:Int).tdiv x5)))))+(T b1_0 ((x7:Int).tmod x5) ((x9:Int).tmod x5)))]:List Int).length<=17592186044416 then(ZI.l1 x5 x7 (wrapI (x9+1)) b0_0 b1_0 (r4++([wrapI ((wrapI (x5*(T b0_0 (wrapI ((x7:Int).tdiv x5)) (wrapI ((x9:Int).tdiv x5)))))+(T b1_0 ((x7:Int).tmod x5) ((x9:Int).tmod x5)))]:List Int)) r5)else none)else none)else none))else none)else none))else none)else none))else none)else none))else(if r5.length+([r4]:List (List Int)).length<=5864062014805 then(ZI.l0 x5 (wrapI (x7+1)) b0_0 b1_0 (r5++([r4]:List (List Int))))else none):=(Zm _ _ _ _).trans (by kernel_rfl)
noncomputable def ZI.con:Con:=⟨ZI.fn.ins,ZI.fn.outs,(List (List Int)),λ x=>ZI.f x.1 x.2.1,λ r=>((r,()),(()))⟩
theorem ZI.valid:Valid Tryz.prog 148 ZI.con:=fnV ZI.fn ZI.E ZI.enc ⟨ttOk,(Zo Zal.valid Zat)⟩ Tryz.func148
noncomputable def ZA.E:Env:={ tt:=TT,con:=[(100,ZaT.con)],frz:=[],rows:=[],live:=[(3,[0,1,4,5,6]),(7,[0,1,4,5,6,7,8])],n:=75,pin:=0,nils:=[] }
noncomputable def ZA.fn:D.Fn:={ body:=Tryz.f149.body.getD .skip,res:=Tryz.f149.results.toList,ins:=[.one (.v (.int .i64)),.one (.v (.int .i64))],outs:=[.agg [.own 25 true (.sl 2 (.int .i64))]] }
def ZA.enc (y:lsd (flats ZA.fn.outs)×lsd (ios ZA.fn.ins)):(List (List Int)):=y.1.1
noncomputable def ZA.f (a0:Int) (a1:Int):Option (List (List Int)):=denF ZA.E ZA.fn ZA.enc (a0,a1,())
noncomputable def ZA.l0 (x0:Int) (x1:Int) (x6:Int) (r2:List (List Int)):Option (List (List Int)):=denAt ZA.E ZA.fn ZA.enc [1,1,0,1,0] { fr:=[(0,.lf (.int .i64 x0)),(1,.lf (.int .i64 x1)),(4,.lf (.box 0 0)),(5,.lf (.box 1 0)),(6,.lf (.int .i64 x6))],ob:=[(0,.box 32 false [.nil]),(1,.box 32 false [.own 2]),(2,.row 25 true (.sl 2 (.int .i64)) r2)],nx:=3 }
noncomputable def ZA.l1 (x0:Int) (x1:Int) (x6:Int) (x8:Int) (r2:List Int) (r3:List (List Int)):Option (List (List Int)):=denAt ZA.E ZA.fn ZA.enc [1,1,0,1,0,0,1,0,0,1,0,1,0] { fr:=[(0,.lf (.int .i64 x0)),(1,.lf (.int .i64 x1)),(4,.lf (.box 0 0)),(5,.lf (.box 1 0)),(6,.lf (.int .i64 x6)),(7,.lf (.own 2)),(8,.lf (.int .i64 x8))],ob:=[(0,.box 32 false [.nil]),(1,.box 32 false [.own 3]),(2,.row 2 true (.int .i64) r2),(3,.row 25 true (.sl 2 (.int .i64)) r3)],nx:=4 }
theorem ZA.f_eq (a0:Int) (a1:Int):ZA.f a0 a1=ZA.l0 a0 a1 0 ([]:List (List Int)):=by kernel_rfl
theorem ZA.l0_eq (x0:Int) (x1:Int) (x6:Int) (r2:List (List Int)):ZA.l0 x0 x1 x6 r2=if x6 < (wrapI (2*x0))then(ZA.l1 x0 x1 x6 0 ([]:List Int) r2)else(some r2):=(Zm _ _ _ _).trans (by kernel_rfl)
theorem ZA.l1_eq (x0:Int) (x1:Int) (x6:Int) (x8:Int) (r2:List Int) (r3:List (List Int)):ZA.l1 x0 x1 x6 x8 r2 r3=if x8 < (wrapI (2*x0))then(if x0=0 then none else(if x0=0 then none else(if x0=0 then none else(if x0=0 then none else(if(wrapI ((x8:Int).tdiv x0))=1 then((ZaT.f (wrapI ((wrapI (((x8:Int).tmod x0) - ((x6:Int).tmod x0)))+(wrapI ((wrapI (x1*(wrapI ((x6:Int).tdiv x0))))*(wrapI ((x8:Int).tdiv x0)))))) x0).bind λ t64=>if r2.length+([wrapI ((wrapI (x0*((wrapI ((wrapI ((x6:Int).tdiv x0))+(wrapI ((x8:Int).tdiv x0))):Int).tmod 2)))+t64)]:List Int).length<=17592186044416 then(ZA.l1 x0 x1 x6 (wrapI (x8+1)) (r2++([wrapI ((wrapI (x0*((wrapI ((wrapI ((x6:Int).tdiv x0))+(wrapI ((x8:Int).tdiv x0))):Int).tmod 2)))+t64)]:List Int)) r3)else none)else((ZaT.f (wrapI ((wrapI (((x6:Int).tmod x0)+((x8:Int).tmod x0)))+(wrapI ((wrapI (x1*(wrapI ((x6:Int).tdiv x0))))*(wrapI ((x8:Int).tdiv x0)))))) x0).bind λ t64=>if r2.length+([wrapI ((wrapI (x0*((wrapI ((wrapI ((x6:Int).tdiv x0))+(wrapI ((x8:Int).tdiv x0))):Int).tmod 2)))+t64)]:List Int).length<=17592186044416 then(ZA.l1 x0 x1 x6 (wrapI (x8+1)) (r2++([wrapI ((wrapI (x0*((wrapI ((wrapI ((x6:Int).tdiv x0))+(wrapI ((x8:Int).tdiv x0))):Int).tmod 2)))+t64)]:List Int)) r3)else none))))))else(if r3.length+([r2]:List (List Int)).length<=5864062014805 then(ZA.l0 x0 x1 (wrapI (x6+1)) (r3++([r2]:List (List Int))))else none):=(Zm _ _ _ _).trans (by kernel_rfl)
noncomputable def ZA.con:Con:=⟨ZA.fn.ins,ZA.fn.outs,(List (List Int)),λ x=>ZA.f x.1 x.2.1,λ r=>((r,()),(()))⟩
theorem ZA.valid:Valid Tryz.prog 149 ZA.con:=fnV ZA.fn ZA.E ZA.enc ⟨ttOk,(Zo ZaT.valid Zat)⟩ Tryz.func149
noncomputable def ZX.E:Env:={ tt:=TT,con:=[(147,ZM.con),(148,ZI.con),(149,ZA.con)],frz:=[],rows:=[],live:=[],n:=57,pin:=0,nils:=[] }
noncomputable def ZX.fn:D.Fn:={ body:=Tryz.f117.body.getD .skip,res:=Tryz.f117.results.toList,ins:=[.one (.v .str)],outs:=[.agg [.own 25 true (.sl 2 (.int .i64))],.one (.v .bool)] }
def ZX.enc (y:lsd (flats ZX.fn.outs)×lsd (ios ZX.fn.ins)):(List (List Int))×Bool:=(y.1.1,y.1.2.1)
noncomputable def ZX.f (a0:ByteArray):Option ((List (List Int))×Bool):=denF ZX.E ZX.fn ZX.enc (a0,())
theorem ZX.f_eq (a0:ByteArray):ZX.f a0=(ZM.f 2).bind λ t5=>if a0=(⟨#[107,108,101,105,110]⟩:ByteArray)then((ZI.f t5 t5).bind λ t11=>some (t11,true))else(if a0=(⟨#[99,117,98,101]⟩:ByteArray)then((ZI.f t5 t5).bind λ t17=>(ZI.f t5 t17).bind λ t18=>some (t18,true))else(if a0=(⟨#[99,50,99,52]⟩:ByteArray)then((ZM.f 4).bind λ t22=>(ZI.f t5 t22).bind λ t23=>some (t23,true))else(if a0=(⟨#[115,51]⟩:ByteArray)then((ZA.f 3 0).bind λ t26=>some (t26,true))else(if a0=(⟨#[100,105,104,101,100,114,97,108]⟩:ByteArray)then((ZA.f 4 0).bind λ t29=>some (t29,true))else(if a0=(⟨#[113,117,97,116,101,114,110,105,111,110]⟩:ByteArray)then((ZA.f 4 2).bind λ t32=>some (t32,true))else(if(a0.size:Int)=2 then(if 0 < (a0.size:Int)then(if(Zeb a0 0)=99 then(if 1 < (a0.size:Int)then(if(Zeb a0 1)>=49 then(if 1 < (a0.size:Int)then(if(Zeb a0 1)<=56 then(if 1 < (a0.size:Int)then((ZM.f (wrapI (wr .u8 ((Zeb a0 1) - 48)))).bind λ t55=>some (t55,true))else none)else(some (([]:List (List Int)),false)))else none)else(some (([]:List (List Int)),false)))else none)else(some (([]:List (List Int)),false)))else none)else(some (([]:List (List Int)),false)))))))):=by kernel_rfl
noncomputable def ZX.con:Con:=⟨ZX.fn.ins,ZX.fn.outs,(List (List Int))×Bool,λ x=>ZX.f x.1,λ r=>((r.1,r.2,()),(()))⟩
theorem ZX.valid:Valid Tryz.prog 117 ZX.con:=fnV ZX.fn ZX.E ZX.enc ⟨ttOk,(Zo ZM.valid (Zo ZI.valid (Zo ZA.valid Zat)))⟩ Tryz.func117
noncomputable def ZaA.E:Env:={ tt:=TT,con:=[(64,Zad.con)],frz:=[],rows:=[],live:=[(3,[1,2,3,4])],n:=26,pin:=0,nils:=[] }
noncomputable def ZaA.fn:D.Fn:={ body:=Tryz.f173.body.getD .skip,res:=Tryz.f173.results.toList,ins:=[.agg [.v (.sl 25 (.sl 2 (.int .i64)))]],outs:=[.agg [.own 25 true (.sl 2 (.int .i64))]] }
def ZaA.enc (y:lsd (flats ZaA.fn.outs)×lsd (ios ZaA.fn.ins)):(List (List Int)):=y.1.1
noncomputable def ZaA.f (l0_0:List (List Int)):Option (List (List Int)):=denF ZaA.E ZaA.fn ZaA.enc (l0_0,())
noncomputable def ZaA.l0 (x4:Int) (b0_0:List (List Int)) (r3:List (List Int)):Option (List (List Int)):=denAt ZaA.E ZaA.fn ZaA.enc [1,1,0,1,0] { fr:=[(1,.lf (.box 0 0)),(2,.lf (.box 1 0)),(3,.lf (.box 2 0)),(4,.lf (.int .i64 x4))],ob:=[(0,.box 32 false [.sl (.sl 2 (.int .i64)) b0_0]),(1,.box 32 false [.nil]),(2,.box 32 false [.own 3]),(3,.row 25 true (.sl 2 (.int .i64)) r3)],nx:=4 }
theorem ZaA.f_eq (l0_0:List (List Int)):ZaA.f l0_0=ZaA.l0 0 l0_0 ([]:List (List Int)):=by kernel_rfl
theorem ZaA.l0_eq (x4:Int) (b0_0:List (List Int)) (r3:List (List Int)):ZaA.l0 x4 b0_0 r3=if x4 < (b0_0.length:Int)then(if 0<=x4 then(if x4 < (b0_0.length:Int)then((Zad.f (row b0_0 x4)).bind λ t21=>if r3.length+([t21]:List (List Int)).length<=5864062014805 then(ZaA.l0 (wrapI (x4+1)) b0_0 (r3++([t21]:List (List Int))))else none)else none)else none)else(some r3):=(Zm _ _ _ _).trans (by kernel_rfl)
noncomputable def ZaA.con:Con:=⟨ZaA.fn.ins,ZaA.fn.outs,(List (List Int)),λ x=>ZaA.f x.1,λ r=>((r,()),(()))⟩
theorem ZaA.valid:Valid Tryz.prog 173 ZaA.con:=fnV ZaA.fn ZaA.E ZaA.enc ⟨ttOk,(Zo Zad.valid Zat)⟩ Tryz.func173
noncomputable def Zq.E:Env:={ tt:=TT,con:=[(173,ZaA.con),(104,Zal.con)],frz:=[],rows:=[],live:=[(3,[1,2,4,5,6]),(7,[1,2,4,5,6,7,8])],n:=49,pin:=0,nils:=[] }
noncomputable def Zq.fn:D.Fn:={ body:=Tryz.f143.body.getD .skip,res:=Tryz.f143.results.toList,ins:=[.agg [.v (.sl 25 (.sl 2 (.int .i64)))],.one (.v (.sl 2 (.int .i64)))],outs:=[.agg [.own 25 true (.sl 2 (.int .i64))]] }
def Zq.enc (y:lsd (flats Zq.fn.outs)×lsd (ios Zq.fn.ins)):(List (List Int)):=y.1.1
noncomputable def Zq.f (l0_0:List (List Int)) (l1:List Int):Option (List (List Int)):=denF Zq.E Zq.fn Zq.enc (l0_0,l1,())
noncomputable def Zq.l0 (x1:List Int) (x6:Int) (b0_0:List (List Int)) (r3:List (List Int)):Option (List (List Int)):=denAt Zq.E Zq.fn Zq.enc [1,1,0,1,0] { fr:=[(1,.lf (.sl (.int .i64) x1)),(2,.lf (.box 0 0)),(4,.lf (.box 1 0)),(5,.lf (.box 2 0)),(6,.lf (.int .i64 x6))],ob:=[(0,.box 32 false [.sl (.sl 2 (.int .i64)) b0_0]),(1,.box 32 false [.nil]),(2,.box 32 false [.own 3]),(3,.row 25 true (.sl 2 (.int .i64)) r3)],nx:=4 }
noncomputable def Zq.l1 (x1:List Int) (x6:Int) (x8:Int) (b0_0:List (List Int)) (r3:List Int) (r4:List (List Int)) (h4:Int):Option (List (List Int)):=denAt Zq.E Zq.fn Zq.enc [1,1,0,1,0,0,1,0,0,1,1,0] { fr:=[(1,.lf (.sl (.int .i64) x1)),(2,.lf (.box 0 0)),(4,.lf (.box 1 0)),(5,.lf (.box 2 0)),(6,.lf (.int .i64 x6)),(7,.lf (.own 3)),(8,.lf (.int .i64 x8))],ob:=[(0,.box 32 false [.sl (.sl 2 (.int .i64)) b0_0]),(1,.box 32 false [.nil]),(2,.box 32 false [.own 4]),(3,.row 2 true (.int .i64) r3),(4,.hole 25 (.sl 2 (.int .i64)) r4 [((h4:Int).toNat,3)])],nx:=5 }
theorem Zq.f_eq (l0_0:List (List Int)) (l1:List Int):Zq.f l0_0 l1=(ZaA.f l0_0).bind λ t10=>Zq.l0 l1 0 l0_0 t10:=by kernel_rfl
theorem Zq.l0_eq (x1:List Int) (x6:Int) (b0_0:List (List Int)) (r3:List (List Int)):Zq.l0 x1 x6 b0_0 r3=(Zal.f b0_0).bind λ t13=>if x6 < t13 then(if 0<=x6 then(if x6 < (x1.length:Int)then(if 0<=rd x1 x6 then(if rd x1 x6 < (r3.length:Int)then(if 0<=rd x1 x6 then(if rd x1 x6 < (r3.length:Int)then(Zq.l1 x1 x6 0 b0_0 (row r3 (rd x1 x6)) r3 (rd x1 x6))else none)else none)else none)else none)else none)else none)else(some r3):=(Zm _ _ _ _).trans (by kernel_rfl)
theorem Zq.l1_eq (x1:List Int) (x6:Int) (x8:Int) (b0_0:List (List Int)) (r3:List Int) (r4:List (List Int)) (h4:Int):Zq.l1 x1 x6 x8 b0_0 r3 r4 h4=(Zal.f b0_0).bind λ t27=>if x8 < t27 then(if 0<=x8 then(if x8 < (x1.length:Int)then(if 0<=x6 then(if x6 < (b0_0.length:Int)then(if 0<=x8 then(if x8 < ((row b0_0 x6).length:Int)then(if 0<=T b0_0 x6 x8 then(if T b0_0 x6 x8 < (x1.length:Int)then(if 0<=rd x1 x8 then(if rd x1 x8 < (r3.length:Int)then(if 0<=rd x1 x8 then(if rd x1 x8 < (r3.length:Int)then(Zq.l1 x1 x6 (wrapI (x8+1)) b0_0 (r3.set (rd x1 x8:Int).toNat (rd x1 (T b0_0 x6 x8))) r4 h4)else none)else none)else none)else none)else none)else none)else none)else none)else none)else none)else none)else none)else(Zq.l0 x1 (wrapI (x6+1)) b0_0 (r4.set (h4:Int).toNat r3)):=(Zm _ _ _ _).trans (by kernel_rfl)
noncomputable def Zq.con:Con:=⟨Zq.fn.ins,Zq.fn.outs,(List (List Int)),λ x=>Zq.f x.1 x.2.1,λ r=>((r,()),(()))⟩
theorem Zq.valid:Valid Tryz.prog 143 Zq.con:=fnV Zq.fn Zq.E Zq.enc ⟨ttOk,(Zo ZaA.valid (Zo Zal.valid Zat))⟩ Tryz.func143
noncomputable def ZV.E:Env:={ tt:=TT,con:=[(63,ZQ.con),(64,Zad.con)],frz:=[8,28],rows:=[],live:=[(3,[0,1,5,6])],n:=30,pin:=1,nils:=[] }
noncomputable def ZV.fn:D.Fn:={ body:=Tryz.f174.body.getD .skip,res:=Tryz.f174.results.toList,ins:=[.ptr false 115 [.v (.sl 5 (.int .u8)),.v (.int .i64),.v (.int .u64)],.one (.v (.int .i64))],outs:=[.one (.v (.sl 2 (.int .i64)))] }
def ZV.enc (y:lsd (flats ZV.fn.outs)×lsd (ios ZV.fn.ins)):(List Int)×(List Int)×Int×Int:=(y.1.1,y.2.1,y.2.2.1,y.2.2.2.1)
noncomputable def ZV.f (l0_0:List Int) (a0_1:Int) (a0_2:Int) (a1:Int):Option ((List Int)×(List Int)×Int×Int):=denF ZV.E ZV.fn ZV.enc (l0_0,a0_1,a0_2,a1,())
noncomputable def ZV.l0 (x1:Int) (x5:List Int) (x6:Int) (b0_0:List Int) (b0_1:Int) (b0_2:Int):Option ((List Int)×(List Int)×Int×Int):=denAt ZV.E ZV.fn ZV.enc [1,1,0,1,0] { fr:=[(0,.lf (.box 0 0)),(1,.lf (.int .i64 x1)),(5,.lf (.sl (.int .i64) x5)),(6,.lf (.int .i64 x6))],ob:=[(0,.box 115 false [.sl (.int .u8) b0_0,.int .i64 b0_1,.int .u64 b0_2])],nx:=1 }
theorem ZV.f_eq (l0_0:List Int) (a0_1:Int) (a0_2:Int) (a1:Int):ZV.f l0_0 a0_1 a0_2 a1=ZV.l0 a1 ([]:List Int) 0 l0_0 a0_1 a0_2:=by kernel_rfl
theorem ZV.l0_eq (x1:Int) (x5:List Int) (x6:Int) (b0_0:List Int) (b0_1:Int) (b0_2:Int):ZV.l0 x1 x5 x6 b0_0 b0_1 b0_2=if x6 < x1 then((ZQ.f b0_0 b0_1 b0_2 (wrapI (x6+1))).bind λ t17=>if 0<=t17.1 then(if t17.1<=(x5.length:Int)then((Zad.f (x5.take (t17.1:Int).toNat)).bind λ t21=>if t21.length+([x6]:List Int).length<=17592186044416 then(if 0<=t17.1 then(if t17.1<=(x5.length:Int)then(if(t21++([x6]:List Int)).length+(x5.drop (t17.1:Int).toNat).length<=17592186044416 then(ZV.l0 x1 ((t21++([x6]:List Int))++(x5.drop (t17.1:Int).toNat)) (wrapI (x6+1)) t17.2.1 t17.2.2.1 t17.2.2.2)else none)else none)else none)else none)else none)else none)else(some (x5,b0_0,b0_1,b0_2)):=(Zm _ _ _ _).trans (by kernel_rfl)
noncomputable def ZV.con:Con:=⟨ZV.fn.ins,ZV.fn.outs,(List Int)×(List Int)×Int×Int,λ x=>ZV.f x.1 x.2.1 x.2.2.1 x.2.2.2.1,λ r=>((r.1,()),(r.2.1,r.2.2.1,r.2.2.2,()))⟩
theorem ZV.valid:Valid Tryz.prog 174 ZV.con:=fnV ZV.fn ZV.E ZV.enc ⟨ttOk,(Zo ZQ.valid (Zo Zad.valid Zat))⟩ Tryz.func174
noncomputable def ZC.E:Env:={ tt:=TT,con:=[(174,ZV.con)],frz:=[],rows:=[],live:=[(3,[5,6,7])],n:=28,pin:=1,nils:=[] }
noncomputable def ZC.fn:D.Fn:={ body:=Tryz.f144.body.getD .skip,res:=Tryz.f144.results.toList,ins:=[.ptr false 115 [.v (.sl 5 (.int .u8)),.v (.int .i64),.v (.int .u64)],.one (.v (.int .i64))],outs:=[.one (.own 2 true (.int .i64))] }
def ZC.enc (y:lsd (flats ZC.fn.outs)×lsd (ios ZC.fn.ins)):(List Int)×(List Int)×Int×Int:=(y.1.1,y.2.1,y.2.2.1,y.2.2.2.1)
noncomputable def ZC.f (l0_0:List Int) (a0_1:Int) (a0_2:Int) (a1:Int):Option ((List Int)×(List Int)×Int×Int):=denF ZC.E ZC.fn ZC.enc (l0_0,a0_1,a0_2,a1,())
noncomputable def ZC.l0 (x5:List Int) (x7:Int) (b0_0:List Int) (b0_1:Int) (b0_2:Int) (r1:List Int):Option ((List Int)×(List Int)×Int×Int):=denAt ZC.E ZC.fn ZC.enc [1,1,0,1,0] { fr:=[(5,.lf (.sl (.int .i64) x5)),(6,.lf (.own 1)),(7,.lf (.int .i64 x7))],ob:=[(0,.box 115 false [.sl (.int .u8) b0_0,.int .i64 b0_1,.int .u64 b0_2]),(1,.row 2 true (.int .i64) r1)],nx:=2 }
theorem ZC.f_eq (l0_0:List Int) (a0_1:Int) (a0_2:Int) (a1:Int):ZC.f l0_0 a0_1 a0_2 a1=(ZV.f l0_0 a0_1 a0_2 (wrapI (a1 - 1))).bind λ t11=>ZC.l0 t11.1 0 t11.2.1 t11.2.2.1 t11.2.2.2 ([0]:List Int):=by kernel_rfl
theorem ZC.l0_eq (x5:List Int) (x7:Int) (b0_0:List Int) (b0_1:Int) (b0_2:Int) (r1:List Int):ZC.l0 x5 x7 b0_0 b0_1 b0_2 r1=if x7 < (x5.length:Int)then(if 0<=x7 then(if x7 < (x5.length:Int)then(if r1.length+([wrapI ((rd x5 x7)+1)]:List Int).length<=17592186044416 then(ZC.l0 x5 (wrapI (x7+1)) b0_0 b0_1 b0_2 (r1++([wrapI ((rd x5 x7)+1)]:List Int)))else none)else none)else none)else(some (r1,b0_0,b0_1,b0_2)):=(Zm _ _ _ _).trans (by kernel_rfl)
noncomputable def ZC.con:Con:=⟨ZC.fn.ins,ZC.fn.outs,(List Int)×(List Int)×Int×Int,λ x=>ZC.f x.1 x.2.1 x.2.2.1 x.2.2.2.1,λ r=>((r.1,()),(r.2.1,r.2.2.1,r.2.2.2,()))⟩
theorem ZC.valid:Valid Tryz.prog 144 ZC.con:=fnV ZC.fn ZC.E ZC.enc ⟨ttOk,(Zo ZV.valid Zat)⟩ Tryz.func144
noncomputable def Zbb.E:Env:={ tt:=TT,con:=[(63,ZQ.con),(117,ZX.con),(104,Zal.con),(144,ZC.con),(143,Zq.con)],frz:=[],rows:=[],live:=[],n:=28,pin:=1,nils:=[] }
noncomputable def Zbb.fn:D.Fn:={ body:=Tryz.f115.body.getD .skip,res:=Tryz.f115.results.toList,ins:=[.ptr false 115 [.v (.sl 5 (.int .u8)),.v (.int .i64),.v (.int .u64)]],outs:=[.agg [.own 25 true (.sl 2 (.int .i64))]] }
def Zbb.enc (y:lsd (flats Zbb.fn.outs)×lsd (ios Zbb.fn.ins)):(List (List Int))×(List Int)×Int×Int:=(y.1.1,y.2.1,y.2.2.1,y.2.2.2.1)
noncomputable def Zbb.f (l0_0:List Int) (a0_1:Int) (a0_2:Int):Option ((List (List Int))×(List Int)×Int×Int):=denF Zbb.E Zbb.fn Zbb.enc (l0_0,a0_1,a0_2,())
theorem Zbb.f_eq (l0_0:List Int) (a0_1:Int) (a0_2:Int):Zbb.f l0_0 a0_1 a0_2=(ZQ.f l0_0 a0_1 a0_2 (([(⟨#[99,49]⟩:ByteArray),(⟨#[99,50]⟩:ByteArray),(⟨#[99,50]⟩:ByteArray),(⟨#[99,51]⟩:ByteArray),(⟨#[99,51]⟩:ByteArray),(⟨#[99,52]⟩:ByteArray),(⟨#[107,108,101,105,110]⟩:ByteArray)]:List ByteArray).length:Int)).bind λ t12=>if 0<=t12.1 then(if t12.1 < (([(⟨#[99,49]⟩:ByteArray),(⟨#[99,50]⟩:ByteArray),(⟨#[99,50]⟩:ByteArray),(⟨#[99,51]⟩:ByteArray),(⟨#[99,51]⟩:ByteArray),(⟨#[99,52]⟩:ByteArray),(⟨#[107,108,101,105,110]⟩:ByteArray)]:List ByteArray).length:Int)then(if 0<=t12.1 then(if t12.1 < (([(⟨#[99,49]⟩:ByteArray),(⟨#[99,50]⟩:ByteArray),(⟨#[99,50]⟩:ByteArray),(⟨#[99,51]⟩:ByteArray),(⟨#[99,51]⟩:ByteArray),(⟨#[99,52]⟩:ByteArray),(⟨#[107,108,101,105,110]⟩:ByteArray)]:List ByteArray).length:Int)then((ZX.f (Ty.rd .str ([(⟨#[99,49]⟩:ByteArray),(⟨#[99,50]⟩:ByteArray),(⟨#[99,50]⟩:ByteArray),(⟨#[99,51]⟩:ByteArray),(⟨#[99,51]⟩:ByteArray),(⟨#[99,52]⟩:ByteArray),(⟨#[107,108,101,105,110]⟩:ByteArray)]:List ByteArray) t12.1)).bind λ t15=>(ZQ.f t12.2.1 t12.2.2.1 t12.2.2.2 2).bind λ t19=>if t19.1=0 then(some (t15.1,t19.2.1,t19.2.2.1,t19.2.2.2))else((Zal.f t15.1).bind λ t25=>(ZC.f t19.2.1 t19.2.2.1 t19.2.2.2 t25).bind λ t26=>(Zq.f t15.1 t26.1).bind λ t27=>some (t27,t26.2.1,t26.2.2.1,t26.2.2.2)))else none)else none)else none)else none:=by kernel_rfl
noncomputable def Zbb.con:Con:=⟨Zbb.fn.ins,Zbb.fn.outs,(List (List Int))×(List Int)×Int×Int,λ x=>Zbb.f x.1 x.2.1 x.2.2.1,λ r=>((r.1,()),(r.2.1,r.2.2.1,r.2.2.2,()))⟩
theorem Zbb.valid:Valid Tryz.prog 115 Zbb.con:=fnV Zbb.fn Zbb.E Zbb.enc ⟨ttOk,(Zo ZQ.valid (Zo ZX.valid (Zo Zal.valid (Zo ZC.valid (Zo Zq.valid Zat)))))⟩ Tryz.func115
noncomputable def Zbo.E:Env:={ tt:=TT,con:=[(173,ZaA.con),(63,ZQ.con),(104,Zal.con),(67,Zam.con),(64,Zad.con)],frz:=[33,36,45,49,66],rows:=[46,1000010,1000014],live:=[(8,[4,5]),(10,[4,5]),(11,[4,5]),(14,[4,5,7]),(15,[4,5])],n:=68,pin:=1,nils:=[] }
noncomputable def Zbo.fn:D.Fn:={ body:=Tryz.f145.body.getD .skip,res:=Tryz.f145.results.toList,ins:=[.ptr false 115 [.v (.sl 5 (.int .u8)),.v (.int .i64),.v (.int .u64)],.agg [.v (.sl 25 (.sl 2 (.int .i64)))]],outs:=[.agg [.v (.sl 25 (.sl 2 (.int .i64)))]] }
def Zbo.enc (y:lsd (flats Zbo.fn.outs)×lsd (ios Zbo.fn.ins)):(List (List Int))×(List Int)×Int×Int:=(y.1.1,y.2.1,y.2.2.1,y.2.2.2.1)
noncomputable def Zbo.f (l0_0:List Int) (a0_1:Int) (a0_2:Int) (l1_0:List (List Int)):Option ((List (List Int))×(List Int)×Int×Int):=denF Zbo.E Zbo.fn Zbo.enc (l0_0,a0_1,a0_2,l1_0,())
theorem Zbo.f_eq (l0_0:List Int) (a0_1:Int) (a0_2:Int) (l1_0:List (List Int)):Zbo.f l0_0 a0_1 a0_2 l1_0=(ZaA.f l1_0).bind λ t9=>(ZQ.f l0_0 a0_1 a0_2 50).bind λ t11=>if t11.1=0 then(some (([]:List (List Int)),t11.2.1,t11.2.2.1,t11.2.2.2))else(if t11.1=1 then((Zal.f l1_0).bind λ t21=>(ZQ.f t11.2.1 t11.2.2.1 t11.2.2.2 t21).bind λ t22=>if 0<=t22.1 then(if t22.1 < (t9.length:Int)then(if 0<=t22.1 then(if t22.1 < (t9.length:Int)then((Zal.f l1_0).bind λ t28=>(ZQ.f t22.2.1 t22.2.2.1 t22.2.2.2 t28).bind λ t29=>(Zal.f l1_0).bind λ t32=>(Zam.f t29.2.1 t29.2.2.1 t29.2.2.2 ([0,1,-1,t32]:List Int)).bind λ t34=>if 0<=t29.1 then(if t29.1 < ((row t9 t22.1).length:Int)then(if 0<=t29.1 then(if t29.1 < ((row t9 t22.1).length:Int)then(some (t9.set (t22.1:Int).toNat ((row t9 t22.1).set (t29.1:Int).toNat t34.1),t34.2.1,t34.2.2.1,t34.2.2.2))else none)else none)else none)else none)else none)else none)else none)else none)else(if t11.1=2 then(if 0 < (t9.length:Int)then(if 0 < (t9.length:Int)then((Zad.f (row t9 0)).bind λ t45=>if t9.length+([t45]:List (List Int)).length<=5864062014805 then(some (t9++([t45]:List (List Int)),t11.2.1,t11.2.2.1,t11.2.2.2))else none)else none)else none)else(if t11.1=3 then((Zal.f l1_0).bind λ t54=>(ZQ.f t11.2.1 t11.2.2.1 t11.2.2.2 t54).bind λ t55=>if 0<=t55.1 then(if t55.1 < (t9.length:Int)then(if 0<=t55.1 then(if t55.1 < (t9.length:Int)then(if 1<=((row t9 t55.1).length:Int)then(if 0<=t55.1 then(if t55.1 < (t9.length:Int)then(if 0<=t55.1 then(if t55.1 < (t9.length:Int)then(some (t9.set (t55.1:Int).toNat ((row t9 t55.1).drop (1:Int).toNat),t55.2.1,t55.2.2.1,t55.2.2.2))else none)else none)else none)else none)else none)else none)else none)else none)else none)else(some (l1_0,t11.2.1,t11.2.2.1,t11.2.2.2))))):=by kernel_rfl
noncomputable def Zbo.con:Con:=⟨Zbo.fn.ins,Zbo.fn.outs,(List (List Int))×(List Int)×Int×Int,λ x=>Zbo.f x.1 x.2.1 x.2.2.1 x.2.2.2.1,λ r=>((r.1,()),(r.2.1,r.2.2.1,r.2.2.2,()))⟩
theorem Zbo.valid:Valid Tryz.prog 145 Zbo.con:=fnV Zbo.fn Zbo.E Zbo.enc ⟨ttOk,(Zo ZaA.valid (Zo ZQ.valid (Zo Zal.valid (Zo Zam.valid (Zo Zad.valid Zat)))))⟩ Tryz.func145
noncomputable def Zba.E:Env:={ tt:=TT,con:=[],frz:=[],rows:=[],live:=[],n:=2,pin:=0,nils:=[] }
noncomputable def Zba.fn:D.Fn:={ body:=Tryz.f175.body.getD .skip,res:=Tryz.f175.results.toList,ins:=[],outs:=[.one (.own 9 true .str)] }
def Zba.enc (y:lsd (flats Zba.fn.outs)×lsd (ios Zba.fn.ins)):(List ByteArray):=y.1.1
noncomputable def Zba.f:Option (List ByteArray):=denF Zba.E Zba.fn Zba.enc (())
theorem Zba.f_eq:Zba.f=some ([(⟨#[99,49]⟩:ByteArray),(⟨#[99,50]⟩:ByteArray),(⟨#[99,51]⟩:ByteArray),(⟨#[99,52]⟩:ByteArray),(⟨#[99,53]⟩:ByteArray),(⟨#[99,54]⟩:ByteArray),(⟨#[99,55]⟩:ByteArray),(⟨#[99,56]⟩:ByteArray),(⟨#[107,108,101,105,110]⟩:ByteArray),(⟨#[115,51]⟩:ByteArray),(⟨#[99,50,99,52]⟩:ByteArray),(⟨#[99,117,98,101]⟩:ByteArray),(⟨#[100,105,104,101,100,114,97,108]⟩:ByteArray),(⟨#[113,117,97,116,101,114,110,105,111,110]⟩:ByteArray)]:List ByteArray):=by kernel_rfl
noncomputable def Zba.con:Con:=⟨Zba.fn.ins,Zba.fn.outs,(List ByteArray),λ x=>Zba.f,λ r=>((r,()),(()))⟩
theorem Zba.valid:Valid Tryz.prog 175 Zba.con:=fnV Zba.fn Zba.E Zba.enc ⟨ttOk,Zat⟩ Tryz.func175
noncomputable def Zbf.E:Env:={ tt:=TT,con:=[(175,Zba.con),(63,ZQ.con),(117,ZX.con),(104,Zal.con),(144,ZC.con),(143,Zq.con)],frz:=[],rows:=[],live:=[],n:=28,pin:=1,nils:=[] }
noncomputable def Zbf.fn:D.Fn:={ body:=Tryz.f146.body.getD .skip,res:=Tryz.f146.results.toList,ins:=[.ptr false 115 [.v (.sl 5 (.int .u8)),.v (.int .i64),.v (.int .u64)]],outs:=[.agg [.own 25 true (.sl 2 (.int .i64))]] }
def Zbf.enc (y:lsd (flats Zbf.fn.outs)×lsd (ios Zbf.fn.ins)):(List (List Int))×(List Int)×Int×Int:=(y.1.1,y.2.1,y.2.2.1,y.2.2.2.1)
noncomputable def Zbf.f (l0_0:List Int) (a0_1:Int) (a0_2:Int):Option ((List (List Int))×(List Int)×Int×Int):=denF Zbf.E Zbf.fn Zbf.enc (l0_0,a0_1,a0_2,())
theorem Zbf.f_eq (l0_0:List Int) (a0_1:Int) (a0_2:Int):Zbf.f l0_0 a0_1 a0_2=(Zba.f).bind λ t6=>(ZQ.f l0_0 a0_1 a0_2 (t6.length:Int)).bind λ t12=>if 0<=t12.1 then(if t12.1 < (t6.length:Int)then(if 0<=t12.1 then(if t12.1 < (t6.length:Int)then((ZX.f (Ty.rd .str t6 t12.1)).bind λ t15=>(ZQ.f t12.2.1 t12.2.2.1 t12.2.2.2 2).bind λ t19=>if t19.1=0 then(some (t15.1,t19.2.1,t19.2.2.1,t19.2.2.2))else((Zal.f t15.1).bind λ t25=>(ZC.f t19.2.1 t19.2.2.1 t19.2.2.2 t25).bind λ t26=>(Zq.f t15.1 t26.1).bind λ t27=>some (t27,t26.2.1,t26.2.2.1,t26.2.2.2)))else none)else none)else none)else none:=by kernel_rfl
noncomputable def Zbf.con:Con:=⟨Zbf.fn.ins,Zbf.fn.outs,(List (List Int))×(List Int)×Int×Int,λ x=>Zbf.f x.1 x.2.1 x.2.2.1,λ r=>((r.1,()),(r.2.1,r.2.2.1,r.2.2.2,()))⟩
theorem Zbf.valid:Valid Tryz.prog 146 Zbf.con:=fnV Zbf.fn Zbf.E Zbf.enc ⟨ttOk,(Zo Zba.valid (Zo ZQ.valid (Zo ZX.valid (Zo Zal.valid (Zo ZC.valid (Zo Zq.valid Zat))))))⟩ Tryz.func146
noncomputable def Zbc.E:Env:={ tt:=TT,con:=[(146,Zbf.con),(145,Zbo.con)],frz:=[5],rows:=[],live:=[],n:=7,pin:=1,nils:=[] }
noncomputable def Zbc.fn:D.Fn:={ body:=Tryz.f116.body.getD .skip,res:=Tryz.f116.results.toList,ins:=[.ptr false 115 [.v (.sl 5 (.int .u8)),.v (.int .i64),.v (.int .u64)]],outs:=[.agg [.v (.sl 25 (.sl 2 (.int .i64)))]] }
def Zbc.enc (y:lsd (flats Zbc.fn.outs)×lsd (ios Zbc.fn.ins)):(List (List Int))×(List Int)×Int×Int:=(y.1.1,y.2.1,y.2.2.1,y.2.2.2.1)
noncomputable def Zbc.f (l0_0:List Int) (a0_1:Int) (a0_2:Int):Option ((List (List Int))×(List Int)×Int×Int):=denF Zbc.E Zbc.fn Zbc.enc (l0_0,a0_1,a0_2,())
theorem Zbc.f_eq (l0_0:List Int) (a0_1:Int) (a0_2:Int):Zbc.f l0_0 a0_1 a0_2=(Zbf.f l0_0 a0_1 a0_2).bind λ t5=>(Zbo.f t5.2.1 t5.2.2.1 t5.2.2.2 t5.1).bind λ t6=>some (t6.1,t6.2.1,t6.2.2.1,t6.2.2.2):=by kernel_rfl
noncomputable def Zbc.con:Con:=⟨Zbc.fn.ins,Zbc.fn.outs,(List (List Int))×(List Int)×Int×Int,λ x=>Zbc.f x.1 x.2.1 x.2.2.1,λ r=>((r.1,()),(r.2.1,r.2.2.1,r.2.2.2,()))⟩
theorem Zbc.valid:Valid Tryz.prog 116 Zbc.con:=fnV Zbc.fn Zbc.E Zbc.enc ⟨ttOk,(Zo Zbf.valid (Zo Zbo.valid Zat))⟩ Tryz.func116
noncomputable def Zbq.E:Env:={ tt:=TT,con:=[(63,ZQ.con),(67,Zam.con),(64,Zad.con)],frz:=[13,32,43],rows:=[],live:=[],n:=44,pin:=1,nils:=[] }
noncomputable def Zbq.fn:D.Fn:={ body:=Tryz.f150.body.getD .skip,res:=Tryz.f150.results.toList,ins:=[.ptr false 115 [.v (.sl 5 (.int .u8)),.v (.int .i64),.v (.int .u64)],.agg [.v (.int .i64),.v (.sl 2 (.int .i64))]],outs:=[.agg [.v (.int .i64),.v (.sl 2 (.int .i64))]] }
def Zbq.enc (y:lsd (flats Zbq.fn.outs)×lsd (ios Zbq.fn.ins)):Int×(List Int)×(List Int)×Int×Int:=(y.1.1,y.1.2.1,y.2.1,y.2.2.1,y.2.2.2.1)
noncomputable def Zbq.f (l0_0:List Int) (a0_1:Int) (a0_2:Int) (a1_0:Int) (l1_1:List Int):Option (Int×(List Int)×(List Int)×Int×Int):=denF Zbq.E Zbq.fn Zbq.enc (l0_0,a0_1,a0_2,a1_0,l1_1,())
theorem Zbq.f_eq (l0_0:List Int) (a0_1:Int) (a0_2:Int) (a1_0:Int) (l1_1:List Int):Zbq.f l0_0 a0_1 a0_2 a1_0 l1_1=(ZQ.f l0_0 a0_1 a0_2 40).bind λ t6=>if t6.1=0 then((Zam.f t6.2.1 t6.2.2.1 t6.2.2.2 ([1,13,wrapI (a1_0+1),0]:List Int)).bind λ t14=>some (t14.1,l1_1,t14.2.1,t14.2.2.1,t14.2.2.2))else(if t6.1=1 then((Zad.f l1_1).bind λ t20=>(ZQ.f t6.2.1 t6.2.2.1 t6.2.2.2 (t20.length:Int)).bind λ t28=>(Zam.f t28.2.1 t28.2.2.1 t28.2.2.2 ([0,-1,2,3,a1_0]:List Int)).bind λ t33=>if 0<=t28.1 then(if t28.1 < (t20.length:Int)then(if 0<=t28.1 then(if t28.1 < (t20.length:Int)then(some (a1_0,t20.set (t28.1:Int).toNat t33.1,t33.2.1,t33.2.2.1,t33.2.2.2))else none)else none)else none)else none)else(if t6.1=2 then((Zad.f l1_1).bind λ t39=>if t39.length+([1]:List Int).length<=17592186044416 then(some (a1_0,t39++([1]:List Int),t6.2.1,t6.2.2.1,t6.2.2.2))else none)else(some (a1_0,l1_1,t6.2.1,t6.2.2.1,t6.2.2.2)))):=by kernel_rfl
noncomputable def Zbq.con:Con:=⟨Zbq.fn.ins,Zbq.fn.outs,Int×(List Int)×(List Int)×Int×Int,λ x=>Zbq.f x.1 x.2.1 x.2.2.1 x.2.2.2.1 x.2.2.2.2.1,λ r=>((r.1,r.2.1,()),(r.2.2.1,r.2.2.2.1,r.2.2.2.2,()))⟩
theorem Zbq.valid:Valid Tryz.prog 150 Zbq.con:=fnV Zbq.fn Zbq.E Zbq.enc ⟨ttOk,(Zo ZQ.valid (Zo Zam.valid (Zo Zad.valid Zat)))⟩ Tryz.func150
end Go.Proofs.YtdamfbighdkcbaaGreat.P
namespace Go.Proofs.YtdamfbighdkcbaaGreat.D
open Go Go.RowKit
noncomputable def fuel:Nat:=Classical.choose (⟨64,rfl⟩:∃n,n=64)
theorem Zn6:fuel=64:=Classical.choose_spec (⟨64,rfl⟩:∃n,n=64)
theorem ZkV {P:Go.Program} {g:Go.FuncId} (hc:Callable P g) {ins outs:List ASh} {R:Type} {dec:R->lsd (flats outs)×lsd (ios ins)}:Valid P g ⟨ins,outs,R,λ _=>none,dec⟩:=⟨hc,λ x r h=>by cases h⟩
end Go.Proofs.YtdamfbighdkcbaaGreat.D
namespace Go.Proofs.YtdamfbighdkcbaaGreat.P
open Go Go.RowKit Go.Proofs.YtdamfbighdkcbaaGreat.D
noncomputable def ZG.E (c:Con):Env:={ tt:=TT,con:=[(185,c),(64,Zad.con),(103,Zay.con)],frz:=[64,91],rows:=[66],live:=[(3,[1,2,3,4,9,10]),(6,[1,2,3,4,9,10,11]),(14,[1,2,3,4,9,13])],n:=95,pin:=0,nils:=[] }
noncomputable def ZG.fn:D.Fn:={ body:=Tryz.f185.body.getD .skip,res:=Tryz.f185.results.toList,ins:=[.agg [.v (.sl 25 (.sl 2 (.int .i64)))],.one (.v (.int .i64)),.one (.v (.sl 2 (.int .i64))),.eat 34 false (.pr (.int .i64) (.sl 2 (.int .i64)))],outs:=[.one (.own 34 false (.pr (.int .i64) (.sl 2 (.int .i64))))] }
def ZG.enc (y:lsd (flats ZG.fn.outs)×lsd (ios ZG.fn.ins)):(List (Int×(List Int))):=y.1.1
noncomputable def ZG.cof (F:lsd (flats ZG.fn.ins)->Option (List (Int×(List Int)))):Con:=⟨ZG.fn.ins,ZG.fn.outs,(List (Int×(List Int))),F,λ r=>((r,()),(()))⟩
noncomputable def ZG.fx:Nat->lsd (flats ZG.fn.ins)->Option (List (Int×(List Int)))
 | 0=>λ _=>none
 | n+1=>λ x=>denF (ZG.E (ZG.cof (ZG.fx n))) ZG.fn ZG.enc x
noncomputable def ZG.cn (n:Nat):Con:=ZG.cof (ZG.fx n)
noncomputable def ZG.f (n:Nat) (l0_0:List (List Int)) (a1:Int) (l2:List Int) (l3:List (Int×(List Int))):Option (List (Int×(List Int))):=ZG.fx n (l0_0,a1,l2,l3,())
noncomputable def ZG.l0 (n:Nat) (x1:Int) (x2:List Int) (x9:Int) (x10:Int) (r0:List (Int×(List Int))) (b1_0:List (List Int)):Option (List (Int×(List Int))):=denAt (ZG.E (ZG.cn n)) ZG.fn ZG.enc [1,1,0,1,0] { fr:=[(1,.lf (.int .i64 x1)),(2,.lf (.sl (.int .i64) x2)),(3,.lf (.own 0)),(4,.lf (.box 1 0)),(9,.lf (.int .i64 x9)),(10,.lf (.int .i64 x10))],ob:=[(0,.row 34 false (.pr (.int .i64) (.sl 2 (.int .i64))) r0),(1,.box 32 false [.sl (.sl 2 (.int .i64)) b1_0])],nx:=2 }
noncomputable def ZG.l1 (n:Nat) (x1:Int) (x2:List Int) (x9:Int) (x10:Int) (x11:Int) (r0:List (Int×(List Int))) (b1_0:List (List Int)):Option (List (Int×(List Int))):=denAt (ZG.E (ZG.cn n)) ZG.fn ZG.enc [1,1,0,1,0,0,1,0,0,1,0] { fr:=[(1,.lf (.int .i64 x1)),(2,.lf (.sl (.int .i64) x2)),(3,.lf (.own 0)),(4,.lf (.box 1 0)),(9,.lf (.int .i64 x9)),(10,.lf (.int .i64 x10)),(11,.lf (.int .i64 x11))],ob:=[(0,.row 34 false (.pr (.int .i64) (.sl 2 (.int .i64))) r0),(1,.box 32 false [.sl (.sl 2 (.int .i64)) b1_0])],nx:=2 }
noncomputable def ZG.l2 (n:Nat) (x1:Int) (x2:List Int) (x9:Int) (x13:Int) (r0:List (Int×(List Int))) (b1_0:List (List Int)):Option (List (Int×(List Int))):=denAt (ZG.E (ZG.cn n)) ZG.fn ZG.enc [1,1,1,1,0,1,0] { fr:=[(1,.lf (.int .i64 x1)),(2,.lf (.sl (.int .i64) x2)),(3,.lf (.own 0)),(4,.lf (.box 1 0)),(9,.lf (.int .i64 x9)),(13,.lf (.int .i64 x13))],ob:=[(0,.row 34 false (.pr (.int .i64) (.sl 2 (.int .i64))) r0),(1,.box 32 false [.sl (.sl 2 (.int .i64)) b1_0])],nx:=2 }
theorem ZG.f_eq (n:Nat) (l0_0:List (List Int)) (a1:Int) (l2:List Int) (l3:List (Int×(List Int))):ZG.f (n+1) l0_0 a1 l2 l3=ZG.l0 n a1 l2 (l2.length:Int) 0 l3 l0_0:=by kernel_rfl
theorem ZG.l0_eq (n:Nat) (x1:Int) (x2:List Int) (x9:Int) (x10:Int) (r0:List (Int×(List Int))) (b1_0:List (List Int)):ZG.l0 n x1 x2 x9 x10 r0 b1_0=if x10 < x9 then(ZG.l1 n x1 x2 x9 x10 0 r0 b1_0)else(if x9=(b1_0.length:Int)then((Zad.f x2).bind λ t64=>if r0.length+([(x1,t64)]:List (Int×(List Int))).length<=4398046511104 then(some (r0++([(x1,t64)]:List (Int×(List Int)))))else none)else(ZG.l2 n x1 x2 x9 1 r0 b1_0)):=(Zm _ _ _ _).trans (by kernel_rfl)
theorem ZG.l1_eq (n:Nat) (x1:Int) (x2:List Int) (x9:Int) (x10:Int) (x11:Int) (r0:List (Int×(List Int))) (b1_0:List (List Int)):ZG.l1 n x1 x2 x9 x10 x11 r0 b1_0=if x11 < x9 then(if 0<=x10 then(if x10 < (b1_0.length:Int)then(if 0<=x11 then(if x11 < ((row b1_0 x10).length:Int)then(if(T b1_0 x10 x11) < x9 then(if 0<=T b1_0 x10 x11 then(if T b1_0 x10 x11 < (x2.length:Int)then(if 0<=x10 then(if x10 < (x2.length:Int)then(if 0<=x11 then(if x11 < (x2.length:Int)then(if x1=0 then none else(if(rd x2 (T b1_0 x10 x11))=((wrapI ((rd x2 x10)*(rd x2 x11)):Int).tmod x1)then(ZG.l1 n x1 x2 x9 x10 (wrapI (x11+1)) r0 b1_0)else(some r0)))else none)else none)else none)else none)else none)else none)else(ZG.l1 n x1 x2 x9 x10 (wrapI (x11+1)) r0 b1_0))else none)else none)else none)else none)else(ZG.l0 n x1 x2 x9 (wrapI (x10+1)) r0 b1_0):=(Zm _ _ _ _).trans (by kernel_rfl)
theorem ZG.l2_eq (n:Nat) (x1:Int) (x2:List Int) (x9:Int) (x13:Int) (r0:List (Int×(List Int))) (b1_0:List (List Int)):ZG.l2 n x1 x2 x9 x13 r0 b1_0=if x13 < x1 then((Zay.f x13 x1).bind λ t75=>if t75=1 then(if x9 > 0 then((Zad.f x2).bind λ t88=>if t88.length+([x13]:List Int).length<=17592186044416 then((ZG.f n b1_0 x1 (t88++([x13]:List Int)) r0).bind λ t93=>ZG.l2 n x1 x2 x9 (wrapI (x13+1)) t93 b1_0)else none)else(if x13=1 then((Zad.f x2).bind λ t88=>if t88.length+([x13]:List Int).length<=17592186044416 then((ZG.f n b1_0 x1 (t88++([x13]:List Int)) r0).bind λ t93=>ZG.l2 n x1 x2 x9 (wrapI (x13+1)) t93 b1_0)else none)else(ZG.l2 n x1 x2 x9 (wrapI (x13+1)) r0 b1_0)))else(ZG.l2 n x1 x2 x9 (wrapI (x13+1)) r0 b1_0))else(some r0):=(Zm _ _ _ _).trans (by kernel_rfl)
theorem ZG.vn:∀n,Valid Tryz.prog 185 (ZG.cn n)
 | 0=>ZkV ⟨_,Tryz.func185,by kernel_rfl,by kernel_rfl⟩
 | n+1=>ZjR (f:=ZG.fn) (E:=ZG.E (ZG.cn n)) (enc:=ZG.enc) ⟨ttOk,(Zo (ZG.vn n) (Zo Zad.valid (Zo Zay.valid Zat)))⟩ (Checked.mixed Tryz.checked) ⟨Tryz.func185,by kernel_rfl,by kernel_rfl,by kernel_rfl,by kernel_rfl,of_decide_eq_true (by kernel_rfl),by kernel_rfl,by kernel_rfl⟩ (λ _=>rfl)
noncomputable def ZG.con:Con:=ZG.cn fuel
theorem ZG.valid:Valid Tryz.prog 185 ZG.con:=ZG.vn fuel
noncomputable def Zbp.E:Env:={ tt:=TT,con:=[(185,ZG.con)],frz:=[7],rows:=[8],live:=[],n:=10,pin:=0,nils:=[] }
noncomputable def Zbp.fn:D.Fn:={ body:=Tryz.f176.body.getD .skip,res:=Tryz.f176.results.toList,ins:=[.agg [.v (.sl 25 (.sl 2 (.int .i64)))],.one (.v (.int .i64))],outs:=[.one (.own 34 false (.pr (.int .i64) (.sl 2 (.int .i64))))] }
def Zbp.enc (y:lsd (flats Zbp.fn.outs)×lsd (ios Zbp.fn.ins)):(List (Int×(List Int))):=y.1.1
noncomputable def Zbp.f (l0_0:List (List Int)) (a1:Int):Option (List (Int×(List Int))):=denF Zbp.E Zbp.fn Zbp.enc (l0_0,a1,())
theorem Zbp.f_eq (l0_0:List (List Int)) (a1:Int):Zbp.f l0_0 a1=(ZG.f fuel l0_0 a1 ([]:List Int) ([]:List (Int×(List Int)))).bind λ t9=>some t9:=by kernel_rfl
noncomputable def Zbp.con:Con:=⟨Zbp.fn.ins,Zbp.fn.outs,(List (Int×(List Int))),λ x=>Zbp.f x.1 x.2.1,λ r=>((r,()),(()))⟩
theorem Zbp.valid:Valid Tryz.prog 176 Zbp.con:=fnV Zbp.fn Zbp.E Zbp.enc ⟨ttOk,(Zo ZG.valid Zat)⟩ Tryz.func176
noncomputable def Za3.E:Env:={ tt:=TT,con:=[(176,Zbp.con),(63,ZQ.con)],frz:=[],rows:=[],live:=[],n:=18,pin:=1,nils:=[] }
noncomputable def Za3.fn:D.Fn:={ body:=Tryz.f151.body.getD .skip,res:=Tryz.f151.results.toList,ins:=[.ptr false 115 [.v (.sl 5 (.int .u8)),.v (.int .i64),.v (.int .u64)],.agg [.v (.sl 25 (.sl 2 (.int .i64)))],.one (.v (.int .i64))],outs:=[.agg [.v (.int .i64),.v (.sl 2 (.int .i64))]] }
def Za3.enc (y:lsd (flats Za3.fn.outs)×lsd (ios Za3.fn.ins)):Int×(List Int)×(List Int)×Int×Int:=(y.1.1,y.1.2.1,y.2.1,y.2.2.1,y.2.2.2.1)
noncomputable def Za3.f (l0_0:List Int) (a0_1:Int) (a0_2:Int) (l1_0:List (List Int)) (a2:Int):Option (Int×(List Int)×(List Int)×Int×Int):=denF Za3.E Za3.fn Za3.enc (l0_0,a0_1,a0_2,l1_0,a2,())
theorem Za3.f_eq (l0_0:List Int) (a0_1:Int) (a0_2:Int) (l1_0:List (List Int)) (a2:Int):Za3.f l0_0 a0_1 a0_2 l1_0 a2=(Zbp.f l1_0 a2).bind λ t10=>(ZQ.f l0_0 a0_1 a0_2 (t10.length:Int)).bind λ t15=>if 0<=t15.1 then(if t15.1 < (t10.length:Int)then(if 0<=t15.1 then(if t15.1 < (t10.length:Int)then(some ((Ty.rd (.pr (.int .i64) (.sl 2 (.int .i64))) t10 t15.1).1,(Ty.rd (.pr (.int .i64) (.sl 2 (.int .i64))) t10 t15.1).2,t15.2.1,t15.2.2.1,t15.2.2.2))else none)else none)else none)else none:=by kernel_rfl
noncomputable def Za3.con:Con:=⟨Za3.fn.ins,Za3.fn.outs,Int×(List Int)×(List Int)×Int×Int,λ x=>Za3.f x.1 x.2.1 x.2.2.1 x.2.2.2.1 x.2.2.2.2.1,λ r=>((r.1,r.2.1,()),(r.2.2.1,r.2.2.2.1,r.2.2.2.2,()))⟩
theorem Za3.valid:Valid Tryz.prog 151 Za3.con:=fnV Za3.fn Za3.E Za3.enc ⟨ttOk,(Zo Zbp.valid (Zo ZQ.valid Zat))⟩ Tryz.func151
noncomputable def Zbd.E:Env:={ tt:=TT,con:=[(67,Zam.con)],frz:=[4],rows:=[],live:=[],n:=6,pin:=1,nils:=[] }
noncomputable def Zbd.fn:D.Fn:={ body:=Tryz.f152.body.getD .skip,res:=Tryz.f152.results.toList,ins:=[.ptr false 115 [.v (.sl 5 (.int .u8)),.v (.int .i64),.v (.int .u64)]],outs:=[.one (.v (.int .i64))] }
def Zbd.enc (y:lsd (flats Zbd.fn.outs)×lsd (ios Zbd.fn.ins)):Int×(List Int)×Int×Int:=(y.1.1,y.2.1,y.2.2.1,y.2.2.2.1)
noncomputable def Zbd.f (l0_0:List Int) (a0_1:Int) (a0_2:Int):Option (Int×(List Int)×Int×Int):=denF Zbd.E Zbd.fn Zbd.enc (l0_0,a0_1,a0_2,())
theorem Zbd.f_eq (l0_0:List Int) (a0_1:Int) (a0_2:Int):Zbd.f l0_0 a0_1 a0_2=(Zam.f l0_0 a0_1 a0_2 ([2,2,3,3,4,4,5,6,8,8,9,12,7,10,11]:List Int)).bind λ t5=>some (t5.1,t5.2.1,t5.2.2.1,t5.2.2.2):=by kernel_rfl
noncomputable def Zbd.con:Con:=⟨Zbd.fn.ins,Zbd.fn.outs,Int×(List Int)×Int×Int,λ x=>Zbd.f x.1 x.2.1 x.2.2.1,λ r=>((r.1,()),(r.2.1,r.2.2.1,r.2.2.2,()))⟩
theorem Zbd.valid:Valid Tryz.prog 152 Zbd.con:=fnV Zbd.fn Zbd.E Zbd.enc ⟨ttOk,(Zo Zam.valid Zat)⟩ Tryz.func152
noncomputable def ZaY.E:Env:={ tt:=TT,con:=[(73,Zy.con),(152,Zbd.con),(151,Za3.con),(150,Zbq.con)],frz:=[9],rows:=[],live:=[],n:=17,pin:=1,nils:=[] }
noncomputable def ZaY.fn:D.Fn:={ body:=Tryz.f118.body.getD .skip,res:=Tryz.f118.results.toList,ins:=[.ptr false 115 [.v (.sl 5 (.int .u8)),.v (.int .i64),.v (.int .u64)],.agg [.v (.sl 25 (.sl 2 (.int .i64)))]],outs:=[.agg [.v (.int .i64),.v (.sl 2 (.int .i64))]] }
def ZaY.enc (y:lsd (flats ZaY.fn.outs)×lsd (ios ZaY.fn.ins)):Int×(List Int)×(List Int)×Int×Int:=(y.1.1,y.1.2.1,y.2.1,y.2.2.1,y.2.2.2.1)
noncomputable def ZaY.f (l0_0:List Int) (a0_1:Int) (a0_2:Int) (l1_0:List (List Int)):Option (Int×(List Int)×(List Int)×Int×Int):=denF ZaY.E ZaY.fn ZaY.enc (l0_0,a0_1,a0_2,l1_0,())
theorem ZaY.f_eq (l0_0:List Int) (a0_1:Int) (a0_2:Int) (l1_0:List (List Int)):ZaY.f l0_0 a0_1 a0_2 l1_0=(Zy.f l1_0).bind λ t6=>if t6=true then((Zbd.f l0_0 a0_1 a0_2).bind λ t14=>(Za3.f t14.2.1 t14.2.2.1 t14.2.2.2 l1_0 t14.1).bind λ t15=>(Zbq.f t15.2.2.1 t15.2.2.2.1 t15.2.2.2.2 t15.1 t15.2.1).bind λ t16=>some (t16.1,t16.2.1,t16.2.2.1,t16.2.2.2.1,t16.2.2.2.2))else(some (3,([1]:List Int),l0_0,a0_1,a0_2)):=by kernel_rfl
noncomputable def ZaY.con:Con:=⟨ZaY.fn.ins,ZaY.fn.outs,Int×(List Int)×(List Int)×Int×Int,λ x=>ZaY.f x.1 x.2.1 x.2.2.1 x.2.2.2.1,λ r=>((r.1,r.2.1,()),(r.2.2.1,r.2.2.2.1,r.2.2.2.2,()))⟩
theorem ZaY.valid:Valid Tryz.prog 118 ZaY.con:=fnV ZaY.fn ZaY.E ZaY.enc ⟨ttOk,(Zo Zy.valid (Zo Zbd.valid (Zo Za3.valid (Zo Zbq.valid Zat))))⟩ Tryz.func118
noncomputable def Za0.E:Env:={ tt:=TT,con:=[(63,ZQ.con),(67,Zam.con)],frz:=[11],rows:=[],live:=[],n:=17,pin:=1,nils:=[] }
noncomputable def Za0.fn:D.Fn:={ body:=Tryz.f119.body.getD .skip,res:=Tryz.f119.results.toList,ins:=[.ptr false 115 [.v (.sl 5 (.int .u8)),.v (.int .i64),.v (.int .u64)],.one (.v (.int .i64))],outs:=[.one (.v (.int .i64))] }
def Za0.enc (y:lsd (flats Za0.fn.outs)×lsd (ios Za0.fn.ins)):Int×(List Int)×Int×Int:=(y.1.1,y.2.1,y.2.2.1,y.2.2.2.1)
noncomputable def Za0.f (l0_0:List Int) (a0_1:Int) (a0_2:Int) (a1:Int):Option (Int×(List Int)×Int×Int):=denF Za0.E Za0.fn Za0.enc (l0_0,a0_1,a0_2,a1,())
theorem Za0.f_eq (l0_0:List Int) (a0_1:Int) (a0_2:Int) (a1:Int):Za0.f l0_0 a0_1 a0_2 a1=(ZQ.f l0_0 a0_1 a0_2 14).bind λ t6=>if t6.1=0 then((Zam.f t6.2.1 t6.2.2.1 t6.2.2.2 ([-1,wrapI (a1+1),1099511627776,-4611686018427387904]:List Int)).bind λ t12=>some (t12.1,t12.2.1,t12.2.2.1,t12.2.2.2))else((ZQ.f t6.2.1 t6.2.2.1 t6.2.2.2 (wrapI (a1+1))).bind λ t16=>some (t16.1,t16.2.1,t16.2.2.1,t16.2.2.2)):=by kernel_rfl
noncomputable def Za0.con:Con:=⟨Za0.fn.ins,Za0.fn.outs,Int×(List Int)×Int×Int,λ x=>Za0.f x.1 x.2.1 x.2.2.1 x.2.2.2.1,λ r=>((r.1,()),(r.2.1,r.2.2.1,r.2.2.2,()))⟩
theorem Za0.valid:Valid Tryz.prog 119 Za0.con:=fnV Za0.fn Za0.E Za0.enc ⟨ttOk,(Zo ZQ.valid (Zo Zam.valid Zat))⟩ Tryz.func119
noncomputable def Zbi.E:Env:={ tt:=TT,con:=[(115,Zbb.con),(63,ZQ.con),(116,Zbc.con),(118,ZaY.con),(119,Za0.con),(67,Zam.con),(117,ZX.con)],frz:=[7,13,23,33],rows:=[],live:=[],n:=35,pin:=1,nils:=[] }
noncomputable def Zbi.fn:D.Fn:={ body:=Tryz.f83.body.getD .skip,res:=Tryz.f83.results.toList,ins:=[.ptr false 115 [.v (.sl 5 (.int .u8)),.v (.int .i64),.v (.int .u64)]],outs:=[.agg [.v (.sl 25 (.sl 2 (.int .i64)))],.agg [.v (.int .i64),.v (.sl 2 (.int .i64))],.one (.v (.int .i64))] }
def Zbi.enc (y:lsd (flats Zbi.fn.outs)×lsd (ios Zbi.fn.ins)):(List (List Int))×Int×(List Int)×Int×(List Int)×Int×Int:=(y.1.1,y.1.2.1,y.1.2.2.1,y.1.2.2.2.1,y.2.1,y.2.2.1,y.2.2.2.1)
noncomputable def Zbi.f (l0_0:List Int) (a0_1:Int) (a0_2:Int):Option ((List (List Int))×Int×(List Int)×Int×(List Int)×Int×Int):=denF Zbi.E Zbi.fn Zbi.enc (l0_0,a0_1,a0_2,())
theorem Zbi.f_eq (l0_0:List Int) (a0_1:Int) (a0_2:Int):Zbi.f l0_0 a0_1 a0_2=(Zbb.f l0_0 a0_1 a0_2).bind λ t7=>(ZQ.f t7.2.1 t7.2.2.1 t7.2.2.2 6).bind λ t9=>if t9.1=0 then((Zbc.f t9.2.1 t9.2.2.1 t9.2.2.2).bind λ t13=>(ZaY.f t13.2.1 t13.2.2.1 t13.2.2.2 t13.1).bind λ t29=>(Za0.f t29.2.2.1 t29.2.2.2.1 t29.2.2.2.2 3).bind λ t32=>(Zam.f t32.2.1 t32.2.2.1 t32.2.2.2 ([0,1,1,2,2,2,3,t32.1]:List Int)).bind λ t34=>some (t13.1,t29.1,t29.2.1,t34.1,t34.2.1,t34.2.2.1,t34.2.2.2))else(if t9.1=1 then(if t9.1=1 then((ZQ.f t9.2.1 t9.2.2.1 t9.2.2.2 4).bind λ t20=>if 0<=t20.1 then(if t20.1 < (([(⟨#[99,53]⟩:ByteArray),(⟨#[99,54]⟩:ByteArray),(⟨#[115,51]⟩:ByteArray),(⟨#[99,54]⟩:ByteArray)]:List ByteArray).length:Int)then(if 0<=t20.1 then(if t20.1 < (([(⟨#[99,53]⟩:ByteArray),(⟨#[99,54]⟩:ByteArray),(⟨#[115,51]⟩:ByteArray),(⟨#[99,54]⟩:ByteArray)]:List ByteArray).length:Int)then((ZX.f (Ty.rd .str ([(⟨#[99,53]⟩:ByteArray),(⟨#[99,54]⟩:ByteArray),(⟨#[115,51]⟩:ByteArray),(⟨#[99,54]⟩:ByteArray)]:List ByteArray) t20.1)).bind λ t23=>(ZaY.f t20.2.1 t20.2.2.1 t20.2.2.2 t23.1).bind λ t29=>(Za0.f t29.2.2.1 t29.2.2.2.1 t29.2.2.2.2 3).bind λ t32=>(Zam.f t32.2.1 t32.2.2.1 t32.2.2.2 ([0,1,1,2,2,2,3,t32.1]:List Int)).bind λ t34=>some (t23.1,t29.1,t29.2.1,t34.1,t34.2.1,t34.2.2.1,t34.2.2.2))else none)else none)else none)else none)else((ZaY.f t9.2.1 t9.2.2.1 t9.2.2.2 t7.1).bind λ t29=>(Za0.f t29.2.2.1 t29.2.2.2.1 t29.2.2.2.2 3).bind λ t32=>(Zam.f t32.2.1 t32.2.2.1 t32.2.2.2 ([0,1,1,2,2,2,3,t32.1]:List Int)).bind λ t34=>some (t7.1,t29.1,t29.2.1,t34.1,t34.2.1,t34.2.2.1,t34.2.2.2)))else(if t9.1=2 then((ZQ.f t9.2.1 t9.2.2.1 t9.2.2.2 4).bind λ t20=>if 0<=t20.1 then(if t20.1 < (([(⟨#[99,53]⟩:ByteArray),(⟨#[99,54]⟩:ByteArray),(⟨#[115,51]⟩:ByteArray),(⟨#[99,54]⟩:ByteArray)]:List ByteArray).length:Int)then(if 0<=t20.1 then(if t20.1 < (([(⟨#[99,53]⟩:ByteArray),(⟨#[99,54]⟩:ByteArray),(⟨#[115,51]⟩:ByteArray),(⟨#[99,54]⟩:ByteArray)]:List ByteArray).length:Int)then((ZX.f (Ty.rd .str ([(⟨#[99,53]⟩:ByteArray),(⟨#[99,54]⟩:ByteArray),(⟨#[115,51]⟩:ByteArray),(⟨#[99,54]⟩:ByteArray)]:List ByteArray) t20.1)).bind λ t23=>(ZaY.f t20.2.1 t20.2.2.1 t20.2.2.2 t23.1).bind λ t29=>(Za0.f t29.2.2.1 t29.2.2.2.1 t29.2.2.2.2 3).bind λ t32=>(Zam.f t32.2.1 t32.2.2.1 t32.2.2.2 ([0,1,1,2,2,2,3,t32.1]:List Int)).bind λ t34=>some (t23.1,t29.1,t29.2.1,t34.1,t34.2.1,t34.2.2.1,t34.2.2.2))else none)else none)else none)else none)else((ZaY.f t9.2.1 t9.2.2.1 t9.2.2.2 t7.1).bind λ t29=>(Za0.f t29.2.2.1 t29.2.2.2.1 t29.2.2.2.2 3).bind λ t32=>(Zam.f t32.2.1 t32.2.2.1 t32.2.2.2 ([0,1,1,2,2,2,3,t32.1]:List Int)).bind λ t34=>some (t7.1,t29.1,t29.2.1,t34.1,t34.2.1,t34.2.2.1,t34.2.2.2)))):=by kernel_rfl
noncomputable def Zbi.con:Con:=⟨Zbi.fn.ins,Zbi.fn.outs,(List (List Int))×Int×(List Int)×Int×(List Int)×Int×Int,λ x=>Zbi.f x.1 x.2.1 x.2.2.1,λ r=>((r.1,r.2.1,r.2.2.1,r.2.2.2.1,()),(r.2.2.2.2.1,r.2.2.2.2.2.1,r.2.2.2.2.2.2,()))⟩
theorem Zbi.valid:Valid Tryz.prog 83 Zbi.con:=fnV Zbi.fn Zbi.E Zbi.enc ⟨ttOk,(Zo Zbb.valid (Zo ZQ.valid (Zo Zbc.valid (Zo ZaY.valid (Zo Za0.valid (Zo Zam.valid (Zo ZX.valid Zat)))))))⟩ Tryz.func83
noncomputable def Za4.E:Env:={ tt:=TT,con:=[(62,ZaP.con),(83,Zbi.con)],frz:=[],rows:=[],live:=[],n:=18,pin:=0,nils:=[] }
noncomputable def Za4.fn:D.Fn:={ body:=Tryz.f49.body.getD .skip,res:=Tryz.f49.results.toList,ins:=[.one (.v (.sl 5 (.int .u8)))],outs:=[.agg [.v (.sl 25 (.sl 2 (.int .i64)))],.agg [.v (.int .i64),.v (.sl 2 (.int .i64))],.one (.v (.int .i64))] }
def Za4.enc (y:lsd (flats Za4.fn.outs)×lsd (ios Za4.fn.ins)):(List (List Int))×Int×(List Int)×Int:=(y.1.1,y.1.2.1,y.1.2.2.1,y.1.2.2.2.1)
noncomputable def Za4.f (l0:List Int):Option ((List (List Int))×Int×(List Int)×Int):=denF Za4.E Za4.fn Za4.enc (l0,())
theorem Za4.f_eq (l0:List Int):Za4.f l0=(ZaP.f l0).bind λ t10=>(Zbi.f t10.1 t10.2.1 t10.2.2).bind λ t11=>some (t11.1,t11.2.1,t11.2.2.1,t11.2.2.2.1):=by kernel_rfl
noncomputable def Za4.con:Con:=⟨Za4.fn.ins,Za4.fn.outs,(List (List Int))×Int×(List Int)×Int,λ x=>Za4.f x.1,λ r=>((r.1,r.2.1,r.2.2.1,r.2.2.2,()),(()))⟩
theorem Za4.valid:Valid Tryz.prog 49 Za4.con:=fnV Za4.fn Za4.E Za4.enc ⟨ttOk,(Zo ZaP.valid (Zo Zbi.valid Zat))⟩ Tryz.func49
noncomputable def Z9.E:Env:={ tt:=TT,con:=[(49,Za4.con)],frz:=[],rows:=[],live:=[],n:=10,pin:=0,nils:=[] }
noncomputable def Z9.fn:D.Fn:={ body:=Tryz.f20.body.getD .skip,res:=Tryz.f20.results.toList,ins:=[.one (.v (.sl 5 (.int .u8)))],outs:=[.agg [.v (.sl 25 (.sl 2 (.int .i64)))],.agg [.v (.int .i64),.v (.sl 2 (.int .i64))],.one (.v (.int .i64))] }
def Z9.enc (y:lsd (flats Z9.fn.outs)×lsd (ios Z9.fn.ins)):(List (List Int))×Int×(List Int)×Int:=(y.1.1,y.1.2.1,y.1.2.2.1,y.1.2.2.2.1)
noncomputable def Z9.f (l0:List Int):Option ((List (List Int))×Int×(List Int)×Int):=denF Z9.E Z9.fn Z9.enc (l0,())
theorem Z9.f_eq (l0:List Int):Z9.f l0=(Za4.f l0).bind λ t6=>some (t6.1,t6.2.1,t6.2.2.1,t6.2.2.2):=by kernel_rfl
noncomputable def Z9.con:Con:=⟨Z9.fn.ins,Z9.fn.outs,(List (List Int))×Int×(List Int)×Int,λ x=>Z9.f x.1,λ r=>((r.1,r.2.1,r.2.2.1,r.2.2.2,()),(()))⟩
theorem Z9.valid:Valid Tryz.prog 20 Z9.con:=fnV Z9.fn Z9.E Z9.enc ⟨ttOk,(Zo Za4.valid Zat)⟩ Tryz.func20
noncomputable def ZK.E:Env:={ tt:=TT,con:=[],frz:=[],rows:=[],live:=[(3,[0,3,10,11,12])],n:=36,pin:=1,nils:=[] }
noncomputable def ZK.fn:D.Fn:={ body:=Tryz.f51.body.getD .skip,res:=Tryz.f51.results.toList,ins:=[.ptr false 102 [.v (.int .i64),.own 25 false (.sl 1000002 (.int .i64))]],outs:=[.one (.own 2 true (.int .i64))] }
def ZK.enc (y:lsd (flats ZK.fn.outs)×lsd (ios ZK.fn.ins)):(List Int)×Int×(List (List Int)):=(y.1.1,y.2.1,y.2.2.1)
noncomputable def ZK.f (a0_0:Int) (l0_1:List (List Int)):Option ((List Int)×Int×(List (List Int))):=denF ZK.E ZK.fn ZK.enc (a0_0,l0_1,())
noncomputable def ZK.l0 (x11:Int) (x12:Int) (b0_0:Int) (r1:List (List Int)) (r2:List Int):Option ((List Int)×Int×(List (List Int))):=denAt ZK.E ZK.fn ZK.enc [1,1,0,1,0] { fr:=[(0,.lf (.box 0 0)),(3,.lf (.own 2)),(10,.lf (.own 1)),(11,.lf (.int .i64 x11)),(12,.lf (.int .i64 x12))],ob:=[(0,.box 102 false [.int .i64 b0_0,.own 1]),(1,.row 25 false (.sl 1000002 (.int .i64)) r1),(2,.row 2 true (.int .i64) r2)],nx:=3 }
theorem ZK.f_eq (a0_0:Int) (l0_1:List (List Int)):ZK.f a0_0 l0_1=ZK.l0 (l0_1.length:Int) 0 a0_0 l0_1 ([]:List Int):=by kernel_rfl
theorem ZK.l0_eq (x11:Int) (x12:Int) (b0_0:Int) (r1:List (List Int)) (r2:List Int):ZK.l0 x11 x12 b0_0 r1 r2=if x12 < x11 then(if 0<=x12 then(if x12 < (r1.length:Int)then(if 0<=x12 then(if x12 < (r1.length:Int)then(if(row r1 x12).length=0 then(if r2.length+([1]:List Int).length<=17592186044416 then(ZK.l0 x11 (wrapI (x12+1)) b0_0 r1 (r2++([1]:List Int)))else none)else(if 0 < (row r1 x12).length then(if 0<=x12 then(if x12 < ((row r1 x12).length:Int)then(if(T r1 x12 x12)=0 then none else(if r2.length+([wrapI ((b0_0:Int).tdiv (T r1 x12 x12))]:List Int).length<=17592186044416 then(ZK.l0 x11 (wrapI (x12+1)) b0_0 r1 (r2++([wrapI ((b0_0:Int).tdiv (T r1 x12 x12))]:List Int)))else none))else none)else none)else none))else none)else none)else none)else none)else(some (r2,b0_0,r1)):=(Zm _ _ _ _).trans (by kernel_rfl)
noncomputable def ZK.con:Con:=⟨ZK.fn.ins,ZK.fn.outs,(List Int)×Int×(List (List Int)),λ x=>ZK.f x.1 x.2.1,λ r=>((r.1,()),(r.2.1,r.2.2,()))⟩
theorem ZK.valid:Valid Tryz.prog 51 ZK.con:=fnV ZK.fn ZK.E ZK.enc ⟨ttOk,Zat⟩ Tryz.func51
noncomputable def Zap.E:Env:={ tt:=TT,con:=[(45,ZaC.con),(50,ZaQ.con),(51,ZK.con)],frz:=[],rows:=[],live:=[],n:=21,pin:=0,nils:=[] }
noncomputable def Zap.fn:D.Fn:={ body:=Tryz.f21.body.getD .skip,res:=Tryz.f21.results.toList,ins:=[.agg [.v (.sl 25 (.sl 2 (.int .i64)))],.agg [.v (.int .i64),.v (.sl 2 (.int .i64))],.one (.v (.int .i64))],outs:=[.one (.own 2 true (.int .i64)),.one (.v (.int .i64))] }
def Zap.enc (y:lsd (flats Zap.fn.outs)×lsd (ios Zap.fn.ins)):(List Int)×Int:=(y.1.1,y.1.2.1)
noncomputable def Zap.f (l0_0:List (List Int)) (a1_0:Int) (l1_1:List Int) (a2:Int):Option ((List Int)×Int):=denF Zap.E Zap.fn Zap.enc (l0_0,a1_0,l1_1,a2,())
theorem Zap.f_eq (l0_0:List (List Int)) (a1_0:Int) (l1_1:List Int) (a2:Int):Zap.f l0_0 a1_0 l1_1 a2=(ZaC.f l0_0 a1_0 l1_1 a2).bind λ t12=>if t12=0 then((ZaQ.f l0_0 a1_0 l1_1 a2).bind λ t19=>(ZK.f t19.1 t19.2).bind λ t20=>some (t20.1,0))else(some (([]:List Int),t12)):=by kernel_rfl
noncomputable def Zap.con:Con:=⟨Zap.fn.ins,Zap.fn.outs,(List Int)×Int,λ x=>Zap.f x.1 x.2.1 x.2.2.1 x.2.2.2.1,λ r=>((r.1,r.2,()),(()))⟩
theorem Zap.valid:Valid Tryz.prog 21 Zap.con:=fnV Zap.fn Zap.E Zap.enc ⟨ttOk,(Zo ZaC.valid (Zo ZaQ.valid (Zo ZK.valid Zat)))⟩ Tryz.func21
noncomputable def Zac.E:Env:={ tt:=TT,con:=[],frz:=[],rows:=[],live:=[(3,[0,1,5,6])],n:=36,pin:=0,nils:=[] }
noncomputable def Zac.fn:D.Fn:={ body:=Tryz.f53.body.getD .skip,res:=Tryz.f53.results.toList,ins:=[.one (.v (.sl 25 (.sl 2 (.int .i64)))),.one (.v (.int .i64))],outs:=[.one (.own 2 true (.int .i64))] }
def Zac.enc (y:lsd (flats Zac.fn.outs)×lsd (ios Zac.fn.ins)):(List Int):=y.1.1
noncomputable def Zac.f (l0:List (List Int)) (a1:Int):Option (List Int):=denF Zac.E Zac.fn Zac.enc (l0,a1,())
noncomputable def Zac.l0 (x0:List (List Int)) (x1:Int) (x6:Int) (r0:List Int):Option (List Int):=denAt Zac.E Zac.fn Zac.enc [1,1,0,1,0] { fr:=[(0,.lf (.sl (.sl 2 (.int .i64)) x0)),(1,.lf (.int .i64 x1)),(5,.lf (.own 0)),(6,.lf (.int .i64 x6))],ob:=[(0,.row 2 true (.int .i64) r0)],nx:=1 }
theorem Zac.f_eq (l0:List (List Int)) (a1:Int):Zac.f l0 a1=Zac.l0 l0 a1 0 ([]:List Int):=by kernel_rfl
theorem Zac.l0_eq (x0:List (List Int)) (x1:Int) (x6:Int) (r0:List Int):Zac.l0 x0 x1 x6 r0=if x6 < (x0.length:Int)then(if 0<=x6 then(if x6 < (x0.length:Int)then(if((row x0 x6).length:Int)=0 then(if r0.length+([1]:List Int).length<=17592186044416 then(Zac.l0 x0 x1 (wrapI (x6+1)) (r0++([1]:List Int)))else none)else(if 0<=x6 then(if x6 < (x0.length:Int)then(if 0<=x6 then(if x6 < ((row x0 x6).length:Int)then(if(T x0 x6 x6)=0 then none else(if r0.length+([wrapI ((x1:Int).tdiv (T x0 x6 x6))]:List Int).length<=17592186044416 then(Zac.l0 x0 x1 (wrapI (x6+1)) (r0++([wrapI ((x1:Int).tdiv (T x0 x6 x6))]:List Int)))else none))else none)else none)else none)else none))else none)else none)else(some r0):=(Zm _ _ _ _).trans (by kernel_rfl)
noncomputable def Zac.con:Con:=⟨Zac.fn.ins,Zac.fn.outs,(List Int),λ x=>Zac.f x.1 x.2.1,λ r=>((r,()),(()))⟩
theorem Zac.valid:Valid Tryz.prog 53 Zac.con:=fnV Zac.fn Zac.E Zac.enc ⟨ttOk,Zat⟩ Tryz.func53
noncomputable def Zar.E:Env:={ tt:=TT,con:=[(41,ZaR.con),(52,Za1.con),(53,Zac.con)],frz:=[],rows:=[],live:=[],n:=29,pin:=0,nils:=[] }
noncomputable def Zar.fn:D.Fn:={ body:=Tryz.f22.body.getD .skip,res:=Tryz.f22.results.toList,ins:=[.agg [.v (.sl 25 (.sl 2 (.int .i64)))],.agg [.v (.int .i64),.v (.sl 2 (.int .i64))],.one (.v (.int .i64))],outs:=[.one (.own 2 true (.int .i64)),.one (.v (.int .i64))] }
def Zar.enc (y:lsd (flats Zar.fn.outs)×lsd (ios Zar.fn.ins)):(List Int)×Int:=(y.1.1,y.1.2.1)
noncomputable def Zar.f (l0_0:List (List Int)) (a1_0:Int) (l1_1:List Int) (a2:Int):Option ((List Int)×Int):=denF Zar.E Zar.fn Zar.enc (l0_0,a1_0,l1_1,a2,())
theorem Zar.f_eq (l0_0:List (List Int)) (a1_0:Int) (l1_1:List Int) (a2:Int):Zar.f l0_0 a1_0 l1_1 a2=(ZaR.f l0_0 a1_0 l1_1 a2).bind λ t14=>if t14=0 then((Za1.f l0_0 a1_0 l1_1 a2).bind λ t22=>(Zac.f t22.2 a1_0).bind λ t28=>some (t28,0))else(some (([]:List Int),t14)):=by kernel_rfl
noncomputable def Zar.con:Con:=⟨Zar.fn.ins,Zar.fn.outs,(List Int)×Int,λ x=>Zar.f x.1 x.2.1 x.2.2.1 x.2.2.2.1,λ r=>((r.1,r.2,()),(()))⟩
theorem Zar.valid:Valid Tryz.prog 22 Zar.con:=fnV Zar.fn Zar.E Zar.enc ⟨ttOk,(Zo ZaR.valid (Zo Za1.valid (Zo Zac.valid Zat)))⟩ Tryz.func22
noncomputable def Zan.E:Env:={ tt:=TT,con:=[],frz:=[],rows:=[],live:=[(4,[0,1,5])],n:=26,pin:=0,nils:=[] }
noncomputable def Zan.fn:D.Fn:={ body:=Tryz.f23.body.getD .skip,res:=Tryz.f23.results.toList,ins:=[.one (.v (.sl 2 (.int .i64))),.one (.v (.sl 2 (.int .i64)))],outs:=[.one (.v .bool)] }
def Zan.enc (y:lsd (flats Zan.fn.outs)×lsd (ios Zan.fn.ins)):Bool:=y.1.1
noncomputable def Zan.f (l0:List Int) (l1:List Int):Option Bool:=denF Zan.E Zan.fn Zan.enc (l0,l1,())
noncomputable def Zan.l0 (x0:List Int) (x1:List Int) (x5:Int):Option Bool:=denAt Zan.E Zan.fn Zan.enc [1,1,0,1,0] { fr:=[(0,.lf (.sl (.int .i64) x0)),(1,.lf (.sl (.int .i64) x1)),(5,.lf (.int .i64 x5))],ob:=[],nx:=0 }
theorem Zan.f_eq (l0:List Int) (l1:List Int):Zan.f l0 l1=if(l0.length:Int)=(l1.length:Int)then(Zan.l0 l0 l1 0)else(some false):=by kernel_rfl
theorem Zan.l0_eq (x0:List Int) (x1:List Int) (x5:Int):Zan.l0 x0 x1 x5=if x5 < (x0.length:Int)then(if 0<=x5 then(if x5 < (x0.length:Int)then(if 0<=x5 then(if x5 < (x1.length:Int)then(if(rd x0 x5)=(rd x1 x5)then(Zan.l0 x0 x1 (wrapI (x5+1)))else(some false))else none)else none)else none)else none)else(some true):=(Zm _ _ _ _).trans (by kernel_rfl)
noncomputable def Zan.con:Con:=⟨Zan.fn.ins,Zan.fn.outs,Bool,λ x=>Zan.f x.1 x.2.1,λ r=>((r,()),(()))⟩
theorem Zan.valid:Valid Tryz.prog 23 Zan.con:=fnV Zan.fn Zan.E Zan.enc ⟨ttOk,Zat⟩ Tryz.func23
noncomputable def Zaj.E:Env:={ tt:=TT,con:=[(45,ZaC.con),(54,ZY.con),(51,ZK.con)],frz:=[],rows:=[],live:=[],n:=21,pin:=0,nils:=[] }
noncomputable def Zaj.fn:D.Fn:={ body:=Tryz.f24.body.getD .skip,res:=Tryz.f24.results.toList,ins:=[.agg [.v (.sl 25 (.sl 2 (.int .i64)))],.agg [.v (.int .i64),.v (.sl 2 (.int .i64))],.one (.v (.int .i64))],outs:=[.one (.own 2 true (.int .i64)),.one (.v (.int .i64))] }
def Zaj.enc (y:lsd (flats Zaj.fn.outs)×lsd (ios Zaj.fn.ins)):(List Int)×Int:=(y.1.1,y.1.2.1)
noncomputable def Zaj.f (l0_0:List (List Int)) (a1_0:Int) (l1_1:List Int) (a2:Int):Option ((List Int)×Int):=denF Zaj.E Zaj.fn Zaj.enc (l0_0,a1_0,l1_1,a2,())
theorem Zaj.f_eq (l0_0:List (List Int)) (a1_0:Int) (l1_1:List Int) (a2:Int):Zaj.f l0_0 a1_0 l1_1 a2=(ZaC.f l0_0 a1_0 l1_1 a2).bind λ t12=>if t12=0 then((ZY.f l0_0 a1_0 l1_1 a2).bind λ t19=>(ZK.f t19.1 t19.2).bind λ t20=>some (t20.1,0))else(some (([]:List Int),t12)):=by kernel_rfl
noncomputable def Zaj.con:Con:=⟨Zaj.fn.ins,Zaj.fn.outs,(List Int)×Int,λ x=>Zaj.f x.1 x.2.1 x.2.2.1 x.2.2.2.1,λ r=>((r.1,r.2,()),(()))⟩
theorem Zaj.valid:Valid Tryz.prog 24 Zaj.con:=fnV Zaj.fn Zaj.E Zaj.enc ⟨ttOk,(Zo ZaC.valid (Zo ZY.valid (Zo ZK.valid Zat)))⟩ Tryz.func24
noncomputable def Zak.E:Env:={ tt:=TT,con:=[(41,ZaR.con),(52,Za1.con),(53,Zac.con)],frz:=[],rows:=[],live:=[],n:=29,pin:=0,nils:=[] }
noncomputable def Zak.fn:D.Fn:={ body:=Tryz.f25.body.getD .skip,res:=Tryz.f25.results.toList,ins:=[.agg [.v (.sl 25 (.sl 2 (.int .i64)))],.agg [.v (.int .i64),.v (.sl 2 (.int .i64))],.one (.v (.int .i64))],outs:=[.one (.own 2 true (.int .i64)),.one (.v (.int .i64))] }
def Zak.enc (y:lsd (flats Zak.fn.outs)×lsd (ios Zak.fn.ins)):(List Int)×Int:=(y.1.1,y.1.2.1)
noncomputable def Zak.f (l0_0:List (List Int)) (a1_0:Int) (l1_1:List Int) (a2:Int):Option ((List Int)×Int):=denF Zak.E Zak.fn Zak.enc (l0_0,a1_0,l1_1,a2,())
theorem Zak.f_eq (l0_0:List (List Int)) (a1_0:Int) (l1_1:List Int) (a2:Int):Zak.f l0_0 a1_0 l1_1 a2=(ZaR.f l0_0 a1_0 l1_1 a2).bind λ t14=>if t14=0 then((Za1.f l0_0 a1_0 l1_1 a2).bind λ t22=>(Zac.f t22.1 a1_0).bind λ t28=>some (t28,0))else(some (([]:List Int),t14)):=by kernel_rfl
noncomputable def Zak.con:Con:=⟨Zak.fn.ins,Zak.fn.outs,(List Int)×Int,λ x=>Zak.f x.1 x.2.1 x.2.2.1 x.2.2.2.1,λ r=>((r.1,r.2,()),(()))⟩
theorem Zak.valid:Valid Tryz.prog 25 Zak.con:=fnV Zak.fn Zak.E Zak.enc ⟨ttOk,(Zo ZaR.valid (Zo Za1.valid (Zo Zac.valid Zat)))⟩ Tryz.func25
noncomputable def Zax.E:Env:={ tt:=TT,con:=[],frz:=[],rows:=[],live:=[(2,[0,1,5])],n:=16,pin:=0,nils:=[] }
noncomputable def Zax.fn:D.Fn:={ body:=Tryz.f92.body.getD .skip,res:=Tryz.f92.results.toList,ins:=[.one (.v (.int .i64)),.one (.v (.int .i64))],outs:=[.one (.v (.int .i64))] }
def Zax.enc (y:lsd (flats Zax.fn.outs)×lsd (ios Zax.fn.ins)):Int:=y.1.1
noncomputable def Zax.f (a0:Int) (a1:Int):Option Int:=denF Zax.E Zax.fn Zax.enc (a0,a1,())
noncomputable def Zax.l0 (x0:Int) (x1:Int) (x5:Int):Option Int:=denAt Zax.E Zax.fn Zax.enc [1,1,0,0] { fr:=[(0,.lf (.int .i64 x0)),(1,.lf (.int .i64 x1)),(5,.lf (.int .i64 x5))],ob:=[],nx:=0 }
theorem Zax.f_eq (a0:Int) (a1:Int):Zax.f a0 a1=Zax.l0 a0 a1 0:=by kernel_rfl
theorem Zax.l0_eq (x0:Int) (x1:Int) (x5:Int):Zax.l0 x0 x1 x5=if x0=0 then none else(if((x1:Int).tmod x0)=0 then(if x0=0 then none else(Zax.l0 x0 (wrapI ((x1:Int).tdiv x0)) (wrapI (x5+1))))else(some x5)):=(Zm _ _ _ _).trans (by kernel_rfl)
noncomputable def Zax.con:Con:=⟨Zax.fn.ins,Zax.fn.outs,Int,λ x=>Zax.f x.1 x.2.1,λ r=>((r,()),(()))⟩
theorem Zax.valid:Valid Tryz.prog 92 Zax.con:=fnV Zax.fn Zax.E Zax.enc ⟨ttOk,Zat⟩ Tryz.func92
noncomputable def Zn.E:Env:={ tt:=TT,con:=[(51,ZK.con),(92,Zax.con)],frz:=[],rows:=[],live:=[(4,[5,6,7,16,17,18]),(8,[5,6,7,9,10,16,17,18,23,24]),(13,[5,6,7,9,16,17,18,43,44])],n:=52,pin:=3,nils:=[] }
noncomputable def Zn.fn:D.Fn:={ body:=Tryz.f55.body.getD .skip,res:=Tryz.f55.results.toList,ins:=[.ptr false 102 [.v (.int .i64),.own 25 false (.sl 1000002 (.int .i64))],.ptr false 102 [.v (.int .i64),.own 25 false (.sl 1000002 (.int .i64))]],outs:=[.one (.v (.int .i64))] }
def Zn.enc (y:lsd (flats Zn.fn.outs)×lsd (ios Zn.fn.ins)):Int×Int×(List (List Int))×Int×(List (List Int)):=(y.1.1,y.2.1,y.2.2.1,y.2.2.2.1,y.2.2.2.2.1)
noncomputable def Zn.f (a0_0:Int) (l0_1:List (List Int)) (a1_0:Int) (l1_1:List (List Int)):Option (Int×Int×(List (List Int))×Int×(List (List Int))):=denF Zn.E Zn.fn Zn.enc (a0_0,l0_1,a1_0,l1_1,())
noncomputable def Zn.l0 (x7:Int) (x17:Int) (x18:Int) (b0_0:Int) (b2_0:Int) (r3:List (List Int)) (r4:List (List Int)) (r5:List Int) (r6:List Int) (r7:List Int):Option (Int×Int×(List (List Int))×Int×(List (List Int))):=denAt Zn.E Zn.fn Zn.enc [1,1,1,0,1,0] { fr:=[(5,.lf (.own 5)),(6,.lf (.own 6)),(7,.lf (.int .i64 x7)),(16,.lf (.own 7)),(17,.lf (.int .i64 x17)),(18,.lf (.int .i64 x18))],ob:=[(0,.box 102 false [.int .i64 b0_0,.own 3]),(2,.box 102 false [.int .i64 b2_0,.own 4]),(3,.row 25 false (.sl 1000002 (.int .i64)) r3),(4,.row 25 false (.sl 1000002 (.int .i64)) r4),(5,.row 2 true (.int .i64) r5),(6,.row 2 true (.int .i64) r6),(7,.row 2 true (.int .i64) r7)],nx:=8 }
noncomputable def Zn.l1 (x7:Int) (x9:Int) (x10:Int) (x17:Int) (x18:Int) (x23:Int) (x24:Int) (b0_0:Int) (b2_0:Int) (r3:List (List Int)) (r4:List (List Int)) (r5:List Int) (r6:List Int) (r7:List Int):Option (Int×Int×(List (List Int))×Int×(List (List Int))):=denAt Zn.E Zn.fn Zn.enc [1,1,1,0,1,0,0,1,1,0,0,1,1,0,1,0] { fr:=[(5,.lf (.own 5)),(6,.lf (.own 6)),(7,.lf (.int .i64 x7)),(9,.lf (.int .i64 x9)),(10,.lf (.int .i64 x10)),(16,.lf (.own 7)),(17,.lf (.int .i64 x17)),(18,.lf (.int .i64 x18)),(23,.lf (.int .i64 x23)),(24,.lf (.int .i64 x24))],ob:=[(0,.box 102 false [.int .i64 b0_0,.own 3]),(2,.box 102 false [.int .i64 b2_0,.own 4]),(3,.row 25 false (.sl 1000002 (.int .i64)) r3),(4,.row 25 false (.sl 1000002 (.int .i64)) r4),(5,.row 2 true (.int .i64) r5),(6,.row 2 true (.int .i64) r6),(7,.row 2 true (.int .i64) r7)],nx:=8 }
noncomputable def Zn.l2 (x7:Int) (x9:Int) (x17:Int) (x18:Int) (x43:Int) (x44:Int) (b0_0:Int) (b2_0:Int) (r3:List (List Int)) (r4:List (List Int)) (r5:List Int) (r6:List Int) (r7:List Int):Option (Int×Int×(List (List Int))×Int×(List (List Int))):=denAt Zn.E Zn.fn Zn.enc [1,1,1,0,1,0,0,1,1,0,0,1,1,1,1,0] { fr:=[(5,.lf (.own 5)),(6,.lf (.own 6)),(7,.lf (.int .i64 x7)),(9,.lf (.int .i64 x9)),(16,.lf (.own 7)),(17,.lf (.int .i64 x17)),(18,.lf (.int .i64 x18)),(43,.lf (.int .i64 x43)),(44,.lf (.int .i64 x44))],ob:=[(0,.box 102 false [.int .i64 b0_0,.own 3]),(2,.box 102 false [.int .i64 b2_0,.own 4]),(3,.row 25 false (.sl 1000002 (.int .i64)) r3),(4,.row 25 false (.sl 1000002 (.int .i64)) r4),(5,.row 2 true (.int .i64) r5),(6,.row 2 true (.int .i64) r6),(7,.row 2 true (.int .i64) r7)],nx:=8 }
theorem Zn.f_eq (a0_0:Int) (l0_1:List (List Int)) (a1_0:Int) (l1_1:List (List Int)):Zn.f a0_0 l0_1 a1_0 l1_1=(ZK.f a0_0 l0_1).bind λ t13=>(ZK.f a1_0 l1_1).bind λ t15=>Zn.l0 1 (([2,3,5,7,11]:List Int).length:Int) 0 t13.2.1 t15.2.1 t13.2.2 t15.2.2 t13.1 t15.1 ([2,3,5,7,11]:List Int):=by kernel_rfl
theorem Zn.l0_eq (x7:Int) (x17:Int) (x18:Int) (b0_0:Int) (b2_0:Int) (r3:List (List Int)) (r4:List (List Int)) (r5:List Int) (r6:List Int) (r7:List Int):Zn.l0 x7 x17 x18 b0_0 b2_0 r3 r4 r5 r6 r7=if x18 < x17 then(if 0<=x18 then(if x18 < (r7.length:Int)then(if 0<=x18 then(if x18 < (r7.length:Int)then(Zn.l1 x7 (rd r7 x18) 0 x17 x18 (r5.length:Int) 0 b0_0 b2_0 r3 r4 r5 r6 r7)else none)else none)else none)else none)else(some (x7,b0_0,r3,b2_0,r4)):=(Zm _ _ _ _).trans (by kernel_rfl)
theorem Zn.l1_eq (x7:Int) (x9:Int) (x10:Int) (x17:Int) (x18:Int) (x23:Int) (x24:Int) (b0_0:Int) (b2_0:Int) (r3:List (List Int)) (r4:List (List Int)) (r5:List Int) (r6:List Int) (r7:List Int):Zn.l1 x7 x9 x10 x17 x18 x23 x24 b0_0 b2_0 r3 r4 r5 r6 r7=if x24 < x23 then(if 0<=x24 then(if x24 < (r5.length:Int)then(if 0<=x24 then(if x24 < (r5.length:Int)then((Zax.f x9 (rd r5 x24)).bind λ t33=>if 0<=x24 then(if x24 < (r6.length:Int)then(if 0<=x24 then(if x24 < (r6.length:Int)then((Zax.f x9 (rd r6 x24)).bind λ t39=>Zn.l1 x7 x9 (wrapI (x10+(wrapI (t33 - t39)))) x17 x18 x23 (wrapI (x24+1)) b0_0 b2_0 r3 r4 r5 r6 r7)else none)else none)else none)else none)else none)else none)else none)else none)else(Zn.l2 x7 x9 x17 x18 x10 0 b0_0 b2_0 r3 r4 r5 r6 r7):=(Zm _ _ _ _).trans (by kernel_rfl)
theorem Zn.l2_eq (x7:Int) (x9:Int) (x17:Int) (x18:Int) (x43:Int) (x44:Int) (b0_0:Int) (b2_0:Int) (r3:List (List Int)) (r4:List (List Int)) (r5:List Int) (r6:List Int) (r7:List Int):Zn.l2 x7 x9 x17 x18 x43 x44 b0_0 b2_0 r3 r4 r5 r6 r7=if x44 < x43 then(Zn.l2 (wrapI (x7*x9)) x9 x17 x18 x43 (wrapI (x44+1)) b0_0 b2_0 r3 r4 r5 r6 r7)else(Zn.l0 x7 x17 (wrapI (x18+1)) b0_0 b2_0 r3 r4 r5 r6 r7):=(Zm _ _ _ _).trans (by kernel_rfl)
noncomputable def Zn.con:Con:=⟨Zn.fn.ins,Zn.fn.outs,Int×Int×(List (List Int))×Int×(List (List Int)),λ x=>Zn.f x.1 x.2.1 x.2.2.1 x.2.2.2.1,λ r=>((r.1,()),(r.2.1,r.2.2.1,r.2.2.2.1,r.2.2.2.2,()))⟩
theorem Zn.valid:Valid Tryz.prog 55 Zn.con:=fnV Zn.fn Zn.E Zn.enc ⟨ttOk,(Zo ZK.valid (Zo Zax.valid Zat))⟩ Tryz.func55
noncomputable def ZS.E:Env:={ tt:=TT,con:=[(45,ZaC.con),(50,ZaQ.con),(54,ZY.con),(55,Zn.con)],frz:=[],rows:=[],live:=[],n:=25,pin:=0,nils:=[] }
noncomputable def ZS.fn:D.Fn:={ body:=Tryz.f26.body.getD .skip,res:=Tryz.f26.results.toList,ins:=[.agg [.v (.sl 25 (.sl 2 (.int .i64)))],.agg [.v (.int .i64),.v (.sl 2 (.int .i64))],.one (.v (.int .i64))],outs:=[.one (.v (.int .i64)),.one (.v (.int .i64))] }
def ZS.enc (y:lsd (flats ZS.fn.outs)×lsd (ios ZS.fn.ins)):Int×Int:=(y.1.1,y.1.2.1)
noncomputable def ZS.f (l0_0:List (List Int)) (a1_0:Int) (l1_1:List Int) (a2:Int):Option (Int×Int):=denF ZS.E ZS.fn ZS.enc (l0_0,a1_0,l1_1,a2,())
theorem ZS.f_eq (l0_0:List (List Int)) (a1_0:Int) (l1_1:List Int) (a2:Int):ZS.f l0_0 a1_0 l1_1 a2=(ZaC.f l0_0 a1_0 l1_1 a2).bind λ t12=>if t12=0 then((ZaQ.f l0_0 a1_0 l1_1 a2).bind λ t19=>(ZY.f l0_0 a1_0 l1_1 a2).bind λ t23=>(Zn.f t19.1 t19.2 t23.1 t23.2).bind λ t24=>some (t24.1,0))else(some (0,t12)):=by kernel_rfl
noncomputable def ZS.con:Con:=⟨ZS.fn.ins,ZS.fn.outs,Int×Int,λ x=>ZS.f x.1 x.2.1 x.2.2.1 x.2.2.2.1,λ r=>((r.1,r.2,()),(()))⟩
theorem ZS.valid:Valid Tryz.prog 26 ZS.con:=fnV ZS.fn ZS.E ZS.enc ⟨ttOk,(Zo ZaC.valid (Zo ZaQ.valid (Zo ZY.valid (Zo Zn.valid Zat))))⟩ Tryz.func26
noncomputable def Zav.E:Env:={ tt:=TT,con:=[(42,Zf.con)],frz:=[],rows:=[],live:=[(3,[7,8,9])],n:=27,pin:=0,nils:=[] }
noncomputable def Zav.fn:D.Fn:={ body:=Tryz.f56.body.getD .skip,res:=Tryz.f56.results.toList,ins:=[.agg [.v (.sl 25 (.sl 2 (.int .i64)))],.agg [.v (.int .i64),.v (.sl 2 (.int .i64))],.one (.v (.int .i64))],outs:=[.one (.v (.int .i64))] }
def Zav.enc (y:lsd (flats Zav.fn.outs)×lsd (ios Zav.fn.ins)):Int:=y.1.1
noncomputable def Zav.f (l0_0:List (List Int)) (a1_0:Int) (l1_1:List Int) (a2:Int):Option Int:=denF Zav.E Zav.fn Zav.enc (l0_0,a1_0,l1_1,a2,())
noncomputable def Zav.l0 (x7:Int) (x9:Int) (r0:List Int):Option Int:=denAt Zav.E Zav.fn Zav.enc [1,1,0,1,0] { fr:=[(7,.lf (.int .i64 x7)),(8,.lf (.own 0)),(9,.lf (.int .i64 x9))],ob:=[(0,.row 2 true (.int .i64) r0)],nx:=1 }
theorem Zav.f_eq (l0_0:List (List Int)) (a1_0:Int) (l1_1:List Int) (a2:Int):Zav.f l0_0 a1_0 l1_1 a2=(Zf.f l0_0 a1_0 l1_1 a2).bind λ t13=>Zav.l0 1 0 t13:=by kernel_rfl
theorem Zav.l0_eq (x7:Int) (x9:Int) (r0:List Int):Zav.l0 x7 x9 r0=if x9 < (r0.length:Int)then(if 0<=x9 then(if x9 < (r0.length:Int)then(if 0<=x9 then(if x9 < (r0.length:Int)then(Zav.l0 (wrapI (x7*(rd r0 x9))) (wrapI (x9+1)) r0)else none)else none)else none)else none)else(some x7):=(Zm _ _ _ _).trans (by kernel_rfl)
noncomputable def Zav.con:Con:=⟨Zav.fn.ins,Zav.fn.outs,Int,λ x=>Zav.f x.1 x.2.1 x.2.2.1 x.2.2.2.1,λ r=>((r,()),(()))⟩
theorem Zav.valid:Valid Tryz.prog 56 Zav.con:=fnV Zav.fn Zav.E Zav.enc ⟨ttOk,(Zo Zf.valid Zat)⟩ Tryz.func56
noncomputable def ZT.E:Env:={ tt:=TT,con:=[(41,ZaR.con),(56,Zav.con)],frz:=[],rows:=[],live:=[],n:=20,pin:=0,nils:=[] }
noncomputable def ZT.fn:D.Fn:={ body:=Tryz.f27.body.getD .skip,res:=Tryz.f27.results.toList,ins:=[.agg [.v (.sl 25 (.sl 2 (.int .i64)))],.agg [.v (.int .i64),.v (.sl 2 (.int .i64))],.one (.v (.int .i64))],outs:=[.one (.v (.int .i64)),.one (.v (.int .i64))] }
def ZT.enc (y:lsd (flats ZT.fn.outs)×lsd (ios ZT.fn.ins)):Int×Int:=(y.1.1,y.1.2.1)
noncomputable def ZT.f (l0_0:List (List Int)) (a1_0:Int) (l1_1:List Int) (a2:Int):Option (Int×Int):=denF ZT.E ZT.fn ZT.enc (l0_0,a1_0,l1_1,a2,())
theorem ZT.f_eq (l0_0:List (List Int)) (a1_0:Int) (l1_1:List Int) (a2:Int):ZT.f l0_0 a1_0 l1_1 a2=(ZaR.f l0_0 a1_0 l1_1 a2).bind λ t12=>if t12=0 then((Zav.f l0_0 a1_0 l1_1 a2).bind λ t19=>some (t19,0))else(some (0,t12)):=by kernel_rfl
noncomputable def ZT.con:Con:=⟨ZT.fn.ins,ZT.fn.outs,Int×Int,λ x=>ZT.f x.1 x.2.1 x.2.2.1 x.2.2.2.1,λ r=>((r.1,r.2,()),(()))⟩
theorem ZT.valid:Valid Tryz.prog 27 ZT.con:=fnV ZT.fn ZT.E ZT.enc ⟨ttOk,(Zo ZaR.valid (Zo Zav.valid Zat))⟩ Tryz.func27
noncomputable def Zau.E:Env:={ tt:=TT,con:=[],frz:=[],rows:=[],live:=[(3,[0,3,4])],n:=18,pin:=0,nils:=[] }
noncomputable def Zau.fn:D.Fn:={ body:=Tryz.f28.body.getD .skip,res:=Tryz.f28.results.toList,ins:=[.one (.v (.sl 2 (.int .i64)))],outs:=[.one (.v (.int .i64))] }
def Zau.enc (y:lsd (flats Zau.fn.outs)×lsd (ios Zau.fn.ins)):Int:=y.1.1
noncomputable def Zau.f (l0:List Int):Option Int:=denF Zau.E Zau.fn Zau.enc (l0,())
noncomputable def Zau.l0 (x0:List Int) (x3:Int) (x4:Int):Option Int:=denAt Zau.E Zau.fn Zau.enc [1,1,0,1,0] { fr:=[(0,.lf (.sl (.int .i64) x0)),(3,.lf (.int .i64 x3)),(4,.lf (.int .i64 x4))],ob:=[],nx:=0 }
theorem Zau.f_eq (l0:List Int):Zau.f l0=Zau.l0 l0 1 0:=by kernel_rfl
theorem Zau.l0_eq (x0:List Int) (x3:Int) (x4:Int):Zau.l0 x0 x3 x4=if x4 < (x0.length:Int)then(if 0<=x4 then(if x4 < (x0.length:Int)then(Zau.l0 x0 (wrapI (x3*(rd x0 x4))) (wrapI (x4+1)))else none)else none)else(some x3):=(Zm _ _ _ _).trans (by kernel_rfl)
noncomputable def Zau.con:Con:=⟨Zau.fn.ins,Zau.fn.outs,Int,λ x=>Zau.f x.1,λ r=>((r,()),(()))⟩
theorem Zau.valid:Valid Tryz.prog 28 Zau.con:=fnV Zau.fn Zau.E Zau.enc ⟨ttOk,Zat⟩ Tryz.func28
noncomputable def ZO.E:Env:={ tt:=TT,con:=[(19,ZbC.con),(20,Z9.con),(21,Zap.con),(22,Zar.con),(23,Zan.con),(24,Zaj.con),(25,Zak.con),(11,Zaq.con),(8,Zas.con),(26,ZS.con),(27,ZT.con),(28,Zau.con)],frz:=[],rows:=[],live:=[(26,[3,4,5,6,10,14,18,22,23]),(32,[3,4,5,14,18,22,24])],n:=267,pin:=0,nils:=[] }
noncomputable def ZO.fn:D.Fn:={ body:=Tryz.f4.body.getD .skip,res:=Tryz.f4.results.toList,ins:=[.one (.v (.sl 5 (.int .u8)))],outs:=[.one (.v .bool)] }
def ZO.enc (y:lsd (flats ZO.fn.outs)×lsd (ios ZO.fn.ins)):Bool:=y.1.1
noncomputable def ZO.f (l0:List Int):Option Bool:=denF ZO.E ZO.fn ZO.enc (l0,())
noncomputable def ZO.l0 (x5:Int) (x18:Int) (x22:Int) (x23:Int) (b0_0:List (List Int)) (b1_0:Int) (b1_1:List Int) (r2:List Int) (r3:List Int) (r4:List Int):Option Bool:=denAt ZO.E ZO.fn ZO.enc [1,1,1,1,1,1,1,1,1,1,1,1,1,1,0,1,0] { fr:=[(3,.lf (.box 0 0)),(4,.lf (.box 1 0)),(5,.lf (.int .i64 x5)),(6,.lf (.own 2)),(10,.lf (.own 3)),(14,.lf (.own 4)),(18,.lf (.int .i64 x18)),(22,.lf (.int .i64 x22)),(23,.lf (.int .i64 x23))],ob:=[(0,.box 32 false [.sl (.sl 2 (.int .i64)) b0_0]),(1,.box 34 false [.int .i64 b1_0,.sl (.int .i64) b1_1]),(2,.row 2 true (.int .i64) r2),(3,.row 2 true (.int .i64) r3),(4,.row 2 true (.int .i64) r4)],nx:=5 }
noncomputable def ZO.l1 (x5:Int) (x18:Int) (x22:Int) (x24:Int) (b0_0:List (List Int)) (b1_0:Int) (b1_1:List Int) (r2:List Int):Option Bool:=denAt ZO.E ZO.fn ZO.enc [1,1,1,1,1,1,1,1,1,1,1,1,1,1,1,0,1,0] { fr:=[(3,.lf (.box 0 0)),(4,.lf (.box 1 0)),(5,.lf (.int .i64 x5)),(14,.lf (.own 2)),(18,.lf (.int .i64 x18)),(22,.lf (.int .i64 x22)),(24,.lf (.int .i64 x24))],ob:=[(0,.box 32 false [.sl (.sl 2 (.int .i64)) b0_0]),(1,.box 34 false [.int .i64 b1_0,.sl (.int .i64) b1_1]),(2,.row 2 true (.int .i64) r2)],nx:=3 }
theorem ZO.f_eq (l0:List Int):ZO.f l0=(ZbC.f l0).bind λ t26=>if t26=true then(some true)else((Z9.f l0).bind λ t29=>(Zap.f t29.1 t29.2.1 t29.2.2.1 t29.2.2.2).bind λ t37=>(Zar.f t29.1 t29.2.1 t29.2.2.1 t29.2.2.2).bind λ t44=>if t37.2=t44.2 then((Zan.f t37.1 t44.1).bind λ t53=>if t53=true then((Zaj.f t29.1 t29.2.1 t29.2.2.1 t29.2.2.2).bind λ t60=>(Zak.f t29.1 t29.2.1 t29.2.2.1 t29.2.2.2).bind λ t67=>if t60.2=t67.2 then((Zan.f t60.1 t67.1).bind λ t76=>if t76=true then((Zaq.f t29.1 t29.2.1 t29.2.2.1 t29.2.2.2).bind λ t83=>(Zas.f t29.1 t29.2.1 t29.2.2.1 t29.2.2.2).bind λ t90=>if t83.2=t90.2 then((Zan.f t83.1 t90.1).bind λ t99=>if t99=true then((ZS.f t29.1 t29.2.1 t29.2.2.1 t29.2.2.2).bind λ t106=>(ZT.f t29.1 t29.2.1 t29.2.2.1 t29.2.2.2).bind λ t113=>if t106.2=t113.2 then(if t106.1=t113.1 then(if t37.2=0 then(if t60.2=0 then(if t83.2=0 then(if t106.2=0 then(if(t37.1.length:Int)=(t60.1.length:Int)then((Zau.f t83.1).bind λ t164=>if t106.1=t164 then(ZO.l0 t29.2.2.2 t106.1 1 0 t29.1 t29.2.1 t29.2.2.1 t37.1 t60.1 t83.1)else(some false))else(some false))else(some false))else(some false))else(some false))else(if(t37.1.length:Int)=0 then(if t60.2=t37.2 then(if t83.2=t37.2 then(some (decide (t106.2=t37.2)))else(some false))else(some false))else(some false)))else(some false))else(some false))else(some false))else(some false))else(some false))else(some false))else(some false))else(some false)):=by kernel_rfl
theorem ZO.l0_eq (x5:Int) (x18:Int) (x22:Int) (x23:Int) (b0_0:List (List Int)) (b1_0:Int) (b1_1:List Int) (r2:List Int) (r3:List Int) (r4:List Int):ZO.l0 x5 x18 x22 x23 b0_0 b1_0 b1_1 r2 r3 r4=if x23 < (r2.length:Int)then(if 0<=x23 then(if x23 < (r3.length:Int)then(if 0<=x23 then(if x23 < (r3.length:Int)then(if(rd r3 x23) < 1 then(some false)else(if 0<=x23 then(if x23 < (r2.length:Int)then(if 0<=x23 then(if x23 < (r2.length:Int)then(if 0<=x23 then(if x23 < (r3.length:Int)then(if 0<=x23 then(if x23 < (r3.length:Int)then(if(rd r3 x23)=0 then none else(if((rd r2 x23:Int).tmod (rd r3 x23))=0 then(if 0<=x23 then(if x23 < (r2.length:Int)then(if 0<=x23 then(if x23 < (r2.length:Int)then(if(rd r2 x23)=0 then none else(if((b1_0:Int).tmod (rd r2 x23))=0 then(if 0<=x23 then(if x23 < (r2.length:Int)then(if 0<=x23 then(if x23 < (r2.length:Int)then(if 0<=x23 then(if x23 < (r3.length:Int)then(if 0<=x23 then(if x23 < (r3.length:Int)then(if(rd r3 x23)=0 then none else(ZO.l0 x5 x18 (wrapI (x22*(wrapI ((rd r2 x23:Int).tdiv (rd r3 x23))))) (wrapI (x23+1)) b0_0 b1_0 b1_1 r2 r3 r4))else none)else none)else none)else none)else none)else none)else none)else none)else(some false)))else none)else none)else none)else none)else(some false)))else none)else none)else none)else none)else none)else none)else none)else none))else none)else none)else none)else none)else(ZO.l1 x5 x18 x22 0 b0_0 b1_0 b1_1 r4):=(Zm _ _ _ _).trans (by kernel_rfl)
theorem ZO.l1_eq (x5:Int) (x18:Int) (x22:Int) (x24:Int) (b0_0:List (List Int)) (b1_0:Int) (b1_1:List Int) (r2:List Int):ZO.l1 x5 x18 x22 x24 b0_0 b1_0 b1_1 r2=if x24 < (r2.length:Int)then(if 0<=x24 then(if x24 < (r2.length:Int)then(if 0<=x24 then(if x24 < (r2.length:Int)then(if(rd r2 x24) < 2 then(some false)else(if 0<=x24 then(if x24 < (r2.length:Int)then(if 0<=x24 then(if x24 < (r2.length:Int)then(if(rd r2 x24)=0 then none else(if((b1_0:Int).tmod (rd r2 x24))=0 then(if x24 > 0 then(if 0<=x24 then(if x24 < (r2.length:Int)then(if 0<=x24 then(if x24 < (r2.length:Int)then(if 0<=wrapI (x24 - 1)then(if wrapI (x24 - 1) < (r2.length:Int)then(if 0<=wrapI (x24 - 1)then(if wrapI (x24 - 1) < (r2.length:Int)then(if(rd r2 (wrapI (x24 - 1)))=0 then none else(if((rd r2 x24:Int).tmod (rd r2 (wrapI (x24 - 1))))=0 then(if x5 > 0 then(if 0<=x24 then(if x24 < (r2.length:Int)then(if 0<=x24 then(if x24 < (r2.length:Int)then(if(rd r2 x24)=0 then none else(if(((b0_0.length:Int):Int).tmod (rd r2 x24))=0 then(ZO.l1 x5 x18 x22 (wrapI (x24+1)) b0_0 b1_0 b1_1 r2)else(some false)))else none)else none)else none)else none)else(ZO.l1 x5 x18 x22 (wrapI (x24+1)) b0_0 b1_0 b1_1 r2))else(some false)))else none)else none)else none)else none)else none)else none)else none)else none)else(if x5 > 0 then(if 0<=x24 then(if x24 < (r2.length:Int)then(if 0<=x24 then(if x24 < (r2.length:Int)then(if(rd r2 x24)=0 then none else(if(((b0_0.length:Int):Int).tmod (rd r2 x24))=0 then(ZO.l1 x5 x18 x22 (wrapI (x24+1)) b0_0 b1_0 b1_1 r2)else(some false)))else none)else none)else none)else none)else(ZO.l1 x5 x18 x22 (wrapI (x24+1)) b0_0 b1_0 b1_1 r2)))else(some false)))else none)else none)else none)else none))else none)else none)else none)else none)else(some (decide (x22=x18))):=(Zm _ _ _ _).trans (by kernel_rfl)
noncomputable def ZO.con:Con:=⟨ZO.fn.ins,ZO.fn.outs,Bool,λ x=>ZO.f x.1,λ r=>((r,()),(()))⟩
theorem ZO.valid:Valid Tryz.prog 4 ZO.con:=fnV ZO.fn ZO.E ZO.enc ⟨ttOk,(Zo ZbC.valid (Zo Z9.valid (Zo Zap.valid (Zo Zar.valid (Zo Zan.valid (Zo Zaj.valid (Zo Zak.valid (Zo Zaq.valid (Zo Zas.valid (Zo ZS.valid (Zo ZT.valid (Zo Zau.valid Zat))))))))))))⟩ Tryz.func4
end Go.Proofs.YtdamfbighdkcbaaGreat.P
namespace Go.Proofs.YtdamfbighdkcbaaGreat.V
open Go Go.RowKit Go.Proofs.YtdamfbighdkcbaaGreat.D
theorem w64 {x:Int} (h0 : -9223372036854775808<=x) (h1:x<=9223372036854775807):wrapI x=x:=by unfold wrapI;rw[ZcW];unfold wrap64;omega
theorem wn {j:Nat} (h:j < 4611686018427387904):wrapI ((j:Int)+1)=((j+1:Nat):Int):=by rw[w64 (by omega) (by omega)];omega
theorem Zo0 {α : Type} {p:Prop} {inst:Decidable p} {a b r : α} (h:p) (k:a=r):(if p then a else b)=r:=by rw[if_pos h];exact k
theorem ZoZ {α : Type} {p:Prop} {inst:Decidable p} {a b r : α} (h:¬ p) (k:b=r):(if p then a else b)=r:=by rw[if_neg h];exact k
theorem Zb3 {α β : Type} {c:Option α} {f : α -> Option β} {a : α} {r:Option β} (h:c=some a) (k:f a=r):c.bind f=r:=by rw[h];exact k
theorem go_p {α : Type} {p:Prop} {inst:Decidable p} {a b r : α} (k:a=r) (h:p:=by first|assumption|omega|rfl|exact B_pos (by omega)):(if p then a else b)=r:=Zo0 h k
theorem go_n {α : Type} {p:Prop} {inst:Decidable p} {a b r : α} (k:b=r) (h:¬ p:=by first|assumption|omega|decide|exact B_not (by omega)):(if p then a else b)=r:=ZoZ h k
theorem go_b {α β : Type} {c:Option α} {f : α -> Option β} {a : α} {r:Option β} (k:f a=r) (h:c=some a:=by assumption):c.bind f=r:=Zb3 h k
theorem Zdd:maxLen<=9223372036854775807:=by unfold maxLen;omega
theorem ZfZ {n:Nat} (h:n<=9223372036854775807):n<=maxLen:=by unfold maxLen;omega
noncomputable def ite_ {α : Type} (p:Prop) (a b : α) : α := @ite α p (Classical.propDecidable p) a b
theorem Zb4 {α : Type} {p:Prop} (h:p) (a b : α):ite_ p a b=a:=by unfold ite_;simp[h]
theorem Zb9 {α : Type} {p:Prop} (h:¬ p) (a b : α):ite_ p a b=b:=by unfold ite_;simp[h]
noncomputable def B (p:Prop):Bool := @decide p (Classical.propDecidable p)
theorem B_pos {p:Prop} (h:p):B p=true:=by unfold B;simp[h]
theorem B_neg {p:Prop} (h:¬ p):B p=false:=by unfold B;simp[h]
theorem B_not {p:Prop} (h:¬ p):¬ (B p=true):=by rw[B_neg h];decide
theorem B_iff {p:Prop}:B p=true↔p:=by unfold B;simp
theorem Zcr {p q:Prop} (h:p↔q):B p=B q:=by rw[show p=q from propext h]
theorem ZgU (p:Prop) {inst:Decidable p}:decide p=B p:=by by_cases h:p <;> simp[h,B]
theorem ZoI:B True=true:=B_pos trivial
theorem scan {R:Type} (n:Nat) (L:Int->R) (P:Int->Prop) (bad:R)
  (hs:∀i:Int,0<=i->i < n->(∀j:Int,0<=j->j < i->P j)->(P i->L i=L (i+1))/\(¬ P i->L i=bad)) :
  ((∀j:Int,0<=j->j < n->P j)/\L 0=L n)\/(∃m:Int,0<=m/\m < n/\(∀j:Int,0<=j->j < m->P j)/\¬ P m/\L 0=L m/\L 0=bad):=by
 suffices H:∀d m:Nat,m+d=n->(∀j:Int,0<=j->j < m->P j) ->
   ((∀j:Int,0<=j->j < n->P j)/\L m=L n)\/(∃i:Int,0<=i/\i < n/\(∀j:Int,0<=j->j < i->P j)/\¬ P i/\L m=L i/\L m=bad)by
  simpa using H n 0 (by omega) (λ j h0 h1=>by omega)
 intro d
 induction d with
 | zero =>
  intro m hm hp;have:(m:Int)=n:=by omega
  rw[this]at hp ⊢;exact .inl ⟨hp,rfl⟩
 | succ d ih =>
  intro m hm hp;obtain⟨h1,h2⟩:=hs m (by omega) (by omega) hp
  by_cases h:P m
  ·
   have hp' : ∀j:Int,0<=j->j < ((m+1:Nat):Int)->P j:=λ j h0 hj=>by
    by_cases e:j=m
    ·rw[e];exact h
    ·exact hp j h0 (by omega)
   have:=ih (m+1) (by omega) hp';rwa[Int.natCast_add,Int.natCast_one,<-h1 h]at this
  ·exact .inr ⟨m,by omega,by omega,hp,h,rfl,h2 h⟩
theorem scanB (n:Nat) (L:Int->Option Bool) (P:Int->Prop) (Q:Prop)
  (hs:∀i:Int,0<=i->i < n->(∀j:Int,0<=j->j < i->P j)->(P i->L i=L (i+1))/\(¬ P i->L i=some false))
  (he:(∀j:Int,0<=j->j < n->P j)->L n=some (B Q)):L 0=some (B ((∀j:Int,0<=j->j < n->P j)/\Q)):=by
 rcases scan n L P (some false) hs with ⟨h1,h2⟩|⟨j,h0,h1,_,h2,_,h3⟩
 ·rw[Zcr (show((∀j:Int,0<=j->j < n->P j)/\Q)↔Q from⟨λ h=>h.2,λ h=>⟨h1,h⟩⟩),h2];exact he h1
 ·rw[B_neg λ h=>h2 (h.1 j h0 h1)];exact h3
theorem scanT (n:Nat) (L:Int->Option Bool) (P:Int->Prop)
  (hs:∀i:Int,0<=i->i < n->(∀j:Int,0<=j->j < i->P j)->(P i->L i=L (i+1))/\(¬ P i->L i=some false))
  (he:(∀j:Int,0<=j->j < n->P j)->L n=some true):L 0=some (B (∀j:Int,0<=j->j < n->P j)):=by
 have:=scanB n L P True hs (λ h=>by rw[ZoI];exact he h)
 rwa[Zcr (show((∀j:Int,0<=j->j < n->P j)/\True)↔_ from⟨λ h=>h.1,λ h=>⟨h,trivial⟩⟩)]at this
theorem scanI {R:Type} (n:Nat) (L:Int->R) (P:Int->Prop) (bad go:R)
  (hs:∀i:Int,0<=i->i < n->(∀j:Int,0<=j->j < i->P j)->(P i->L i=L (i+1))/\(¬ P i->L i=bad)) (he:(∀j:Int,0<=j->j < n->P j)->L n=go) :
  ((∀j:Int,0<=j->j < n->P j)->L 0=go)/\(¬ (∀j:Int,0<=j->j < n->P j)->L 0=bad):=by
 rcases scan n L P bad hs with ⟨h1,h2⟩|⟨j,h0,h1,_,h2,_,h3⟩
 ·exact⟨λ _=>h2.trans (he h1),λ h=>absurd h1 h⟩
 ·exact⟨λ h=>absurd (h j h0 h1) h2,λ _=>h3⟩
theorem up {R:Type} (n:Nat) (L:Nat->R) (h:∀i,i < n->L i=L (i+1)):L 0=L n:=by
 suffices H:∀m,m<=n->L 0=L m from H n (Nat.le_refl _)
 intro m
 induction m with
 | zero=>exact λ _=>rfl
 | succ m ih=>exact λ hm=>(ih (by omega)).trans (h m (by omega))
theorem Zcu (xs:List Int) (j:Nat):rd xs (j:Int)=xs.getD j 0:=by simp[rd]
theorem rd_get {xs:List Int} {j:Nat} (h:j < xs.length):rd xs (j:Int)=xs[j]:=by simp[rd,List.getD_eq_getElem?_getD,List.getElem?_eq_getElem h]
theorem rd_at {xs:List Int} {i:Int} (h0:0<=i) (h1:i < xs.length):xs[i.toNat]? = some (rd xs i):=by
 have h:i.toNat < xs.length:=by omega
 simp[rd,List.getD_eq_getElem?_getD,List.getElem?_eq_getElem h]
theorem ZbU {xs:List Int} {i:Int} (h0:0<=i) (h1:i < xs.length):rd xs i∈xs:=List.mem_of_getElem? (rd_at h0 h1)
theorem ZgA {xs ys:List Int} (hl:xs.length=ys.length) (h:∀i:Int,0<=i->i < xs.length->rd xs i=rd ys i):xs=ys:=by
 apply List.ext_getElem hl
 intro i h1 h2;have:=h i (by omega) (by omega)
 simpa [rd,List.getD_eq_getElem?_getD,List.getElem?_eq_getElem h1,List.getElem?_eq_getElem h2] using this
theorem Zbz {g:List (List Int)} {j:Nat} (h:j < g.length):row g (j:Int)=g[j]:=by simp[row,List.getD_eq_getElem?_getD,List.getElem?_eq_getElem h]
theorem Zgi {g:List (List Int)} {a:Int} (h0:0<=a) (h1:a < g.length):row g a∈g:=by
 have h:a.toNat < g.length:=by omega
 unfold row;rw[List.getD_eq_getElem?_getD,List.getElem?_eq_getElem h];exact List.getElem_mem h
theorem Zds {g:List (List Int)} {r:List Int} (h:r∈g):∃i:Int,0<=i/\i < g.length/\row g i=r:=by obtain⟨i,hi,rfl⟩:=List.mem_iff_getElem.1 h;exact⟨i,by omega,by omega,Zbz hi⟩
theorem Zn5 {xs ys:List (List Int)} (hl:xs.length=ys.length) (h:∀i:Int,0<=i->i < xs.length->row xs i=row ys i):xs=ys:=by
 apply List.ext_getElem hl
 intro i h1 h2;have:=h i (by omega) (by omega);rwa[Zbz h1,Zbz h2]at this
def AllIn (n:Int) (xs:List Int):Prop:=∀i:Int,0<=i->i < xs.length->0<=rd xs i/\rd xs i < n
theorem ZdJ {n x:Int} (h0:0<=x) (h1:x < n):AllIn n [x]:=by
 intro i i0 i1;have:i=0:=by simp at i1;omega
 subst this;simp[rd, *]
theorem Zdb {n x y:Int} (h0:0<=x) (h1:x < n) (h2:0<=y) (h3:y < n):AllIn n [x,y]:=by
 intro i i0 i1;have:i=0\/i=1:=by simp at i1;omega
 rcases this with rfl|rfl <;> simp[rd, *]
theorem ZiE {n x y z:Int} (h0:0<=x) (h1:x < n) (h2:0<=y) (h3:y < n) (h4:0<=z) (h5:z < n):AllIn n [x,y,z]:=by
 intro i i0 i1;have:i=0\/i=1\/i=2:=by simp at i1;omega
 rcases this with rfl|rfl|rfl <;> simp[rd, *]
theorem AllIn.mem {n:Int} {xs:List Int} (h:AllIn n xs) {x:Int} (hx:x∈xs):0<=x/\x < n:=by obtain⟨i,hi,rfl⟩:=List.mem_iff_getElem.1 hx;have:=h i (by omega) (by omega);rwa[rd_get hi]at this
theorem ZbO {n:Int} {xs:List Int} (h:∀x∈xs,0<=x/\x < n):AllIn n xs:=λ i i0 i1=>h _ (ZbU i0 i1)
theorem AllIn.drop {n:Int} {xs:List Int} (h:AllIn n xs) (j:Nat):AllIn n (xs.drop j):=ZbO λ x hx=>h.mem (List.mem_of_mem_drop hx)
theorem AllIn.take {n:Int} {xs:List Int} (h:AllIn n xs) (j:Nat):AllIn n (xs.take j):=ZbO λ x hx=>h.mem (List.mem_of_mem_take hx)
theorem AllIn.append {n:Int} {xs ys:List Int} (h:AllIn n xs) (k:AllIn n ys):AllIn n (xs++ys):=ZbO λ x hx=>by
 rcases List.mem_append.1 hx with h' | h'
 ·exact h.mem h'
 ·exact k.mem h'
theorem Zcc {a m:Int} (h:0<=a):Int.tmod a m=a%m:=Int.tmod_eq_emod_of_nonneg h
theorem Zdy {a m:Int} (h:0<=a):Int.tdiv a m=a / m:=Int.tdiv_eq_ediv_of_nonneg h
end Go.Proofs.YtdamfbighdkcbaaGreat.V
set_option maxHeartbeats 2000000
set_option maxRecDepth 20000
namespace Go.Proofs.YtdamfbighdkcbaaGreat.V
open Go.RowKit Go.Proofs.YtdamfbighdkcbaaGreat.D Go.Proofs.YtdamfbighdkcbaaGreat.P
theorem areIn (n:Int) (xs:List Int) (hl:xs.length<=maxLen):Za5.f n xs=some (B (AllIn n xs)):=by
 have hm:=Zdd;rw[Za5.f_eq];refine scanT xs.length (λ i=>Za5.l0 n xs (xs.length:Int) i) (λ i=>0<=rd xs i/\rd xs i < n) (λ i h0 h1 _ => ?_) (λ _ => ?_)
 ·
  refine⟨λ h => ?_,λ h => ?_⟩ <;> (rw[Za5.l0_eq])
  ·((with_reducible repeat (first|refine go_p ?_|refine go_n ?_|refine go_b ?_|dsimp only));first|done|(with_reducible rfl)|simp (disch:=omega) only[w64])
  ·by_cases h2:rd xs i < 0 <;> ((with_reducible repeat (first|refine go_p ?_|refine go_n ?_|refine go_b ?_|dsimp only));first|done|(with_reducible rfl)|simp (disch:=omega) only[w64])
 ·
  (rw[Za5.l0_eq])
  ((with_reducible repeat (first|refine go_p ?_|refine go_n ?_|refine go_b ?_|dsimp only));first|done|(with_reducible rfl)|simp (disch:=omega) only[w64])
theorem index_ (xs:List Int) (x:Int) (hl:xs.length<=maxLen) :
  ((∀i:Int,0<=i->i < xs.length->rd xs i≠x)/\ZF.f xs x=some (-1)) \/
  ∃i:Int,0<=i/\i < xs.length/\(∀j:Int,0<=j->j < i->rd xs j≠x)/\rd xs i=x/\ZF.f xs x=some i:=by
 have hm:=Zdd;rw[ZF.f_eq]
 suffices H:∀d m:Nat,m+d=xs.length->(∀j:Int,0<=j->j < m->rd xs j≠x) ->
   ((∀i:Int,0<=i->i < xs.length->rd xs i≠x)/\ZF.l0 xs x (xs.length:Int) m=some (-1)) \/
   ∃i:Int,0<=i/\i < xs.length/\(∀j:Int,0<=j->j < i->rd xs j≠x)/\rd xs i=x/\ZF.l0 xs x (xs.length:Int) m=some i from
  H xs.length 0 (by omega) (λ j h0 h1=>by omega)
 intro d
 induction d with
 | zero =>
  intro m hd hp;obtain rfl:m=xs.length:=by omega
  refine .inl ⟨hp,?_⟩
  (rw[ZF.l0_eq])
  ((with_reducible repeat (first|refine go_p ?_|refine go_n ?_|refine go_b ?_|dsimp only));first|done|(with_reducible rfl)|simp (disch:=omega) only[w64])
 | succ d ih =>
  intro m hd hp
  by_cases h2:x=rd xs m
  ·
   refine .inr ⟨m,by omega,by omega,hp,h2.symm,?_⟩
   (rw[ZF.l0_eq])
   ((with_reducible repeat (first|refine go_p ?_|refine go_n ?_|refine go_b ?_|dsimp only));first|done|(with_reducible rfl)|simp (disch:=omega) only[w64])
  ·
   have st:ZF.l0 xs x (xs.length:Int) m=ZF.l0 xs x (xs.length:Int) ((m+1:Nat):Int):=by
    rw[Int.natCast_add,Int.natCast_one]
    (rw[ZF.l0_eq])
    ((with_reducible repeat (first|refine go_p ?_|refine go_n ?_|refine go_b ?_|dsimp only));first|done|(with_reducible rfl)|simp (disch:=omega) only[w64])
   rw[st];refine ih (m+1) (by omega) λ j k0 k1 => ?_
   by_cases e:j=m
   ·rw[e];exact λ h=>h2 h.symm
   ·exact hp j k0 (by omega)
theorem Zlm (xs:List Int) (x:Int) (hl:xs.length<=maxLen):Z8.f xs x=some (B (∃i:Int,0<=i/\i < xs.length/\rd xs i=x)):=by
 rw[Z8.f_eq];rcases index_ xs x hl with ⟨h,e⟩|⟨i,h0,h1,_,h2,e⟩
 ·rw[e,B_neg λ⟨i,h0,h1,h2⟩=>h i h0 h1 h2];rfl
 ·rw[e,B_pos ⟨i,h0,h1,h2⟩];simp[h0]
structure Grp (g:List (List Int)):Prop where
 n1:1<=g.length
 n8:g.length<=8
 row:∀a:Int,0<=a->a < g.length->(row g a).length=g.length
 ent:∀a b:Int,0<=a->a < g.length->0<=b->b < g.length->0<=T g a b/\T g a b < g.length
 one:∀a:Int,0<=a->a < g.length->T g 0 a=a
 one' : ∀a:Int,0<=a->a < g.length->T g a 0=a
 assoc:∀a b c:Int,0<=a->a < g.length->0<=b->b < g.length->0<=c->c < g.length->T g (T g a b) c=T g a (T g b c)
 inv:∀a:Int,0<=a->a < g.length->∃b:Int,0<=b/\b < g.length/\T g a b=0
theorem Grp.inv2 {g:List (List Int)} (h:Grp g) {a:Int} (h0:0<=a) (h1:a < g.length):∃b:Int,0<=b/\b < g.length/\T g a b=0/\T g b a=0:=by
 obtain⟨b,b0,b1,hb⟩:=h.inv a h0 h1;obtain⟨c,c0,c1,hc⟩:=h.inv b b0 b1;refine⟨b,b0,b1,hb,?_⟩;have hac:c=a:=by have e1:=h.assoc a b c h0 h1 b0 b1 c0 c1;rw[hb,hc,h.one c c0 c1,h.one' a h0 h1]at e1;exact e1
 rw[<-hac];exact hc
theorem Zka {g:List (List Int)} (hr:∀r∈g,r.length<=maxLen) {a:Int} (h0:0<=a) (h1:a < g.length):(row g a).length<=maxLen:=hr _ (Zgi h0 h1)
def Tab (g:List (List Int)):Prop:=∀a:Int,0<=a->a < g.length->(row g a).length=g.length/\AllIn g.length (row g a)
def Law (g:List (List Int)) (a:Int):Prop:=T g 0 a=a/\T g a 0=a/\(∃b:Int,0<=b/\b < g.length/\T g a b=0)/\∀b:Int,0<=b->b < g.length->∀c:Int,0<=c->c < g.length->T g (T g a b) c=T g a (T g b c)
theorem ZiY (g:List (List Int)):Grp g↔(1<=g.length/\g.length<=8)/\Tab g/\∀a:Int,0<=a->a < g.length->Law g a:=by
 constructor
 ·intro h;refine⟨⟨h.n1,h.n8⟩,λ a h0 h1=>⟨h.row a h0 h1,λ i i0 i1 => ?_⟩,λ a h0 h1=>⟨h.one a h0 h1,h.one' a h0 h1,h.inv a h0 h1,λ b b0 b1 c c0 c1=>h.assoc a b c h0 h1 b0 b1 c0 c1⟩⟩;have:=h.row a h0 h1;exact h.ent a i h0 h1 i0 (by omega)
 ·rintro⟨⟨h1,h8⟩,ht,hl⟩;refine⟨h1,h8,λ a a0 a1=>(ht a a0 a1).1,λ a b a0 a1 b0 b1 => ?_,λ a a0 a1=>(hl a a0 a1).1,λ a a0 a1=>(hl a a0 a1).2.1,λ a b c a0 a1 b0 b1 c0 c1=>(hl a a0 a1).2.2.2 b b0 b1 c c0 c1,λ a a0 a1=>(hl a a0 a1).2.2.1⟩;have:=(ht a a0 a1).1;exact(ht a a0 a1).2 b b0 (by omega)
theorem Zof (g:List (List Int)) (hl:g.length<=maxLen) (hr:∀r∈g,r.length<=maxLen):Zz.f g=some (B (Grp g)):=by
 have hm:=Zdd;rw[Zcr (ZiY g)]
 (rw[Zz.f_eq])
 by_cases c1:(g.length:Int) < 1\/(g.length:Int) > 8
 ·
  rw[B_neg λ h=>by omega]
  by_cases c2:(g.length:Int) < 1 <;> ((with_reducible repeat (first|refine go_p ?_|refine go_n ?_|refine Zb3 (by first|assumption|exact ZaI.f_eq _) ?_|dsimp only));first|done|(with_reducible rfl)|simp (disch:=omega) only[w64])
 rw[Zcr (show((1<=g.length/\g.length<=8)/\Tab g/\∀a:Int,0<=a->a < g.length->Law g a)↔(Tab g/\∀a:Int,0<=a->a < g.length->Law g a)from⟨λ h=>h.2,λ h=>⟨by omega,h⟩⟩)]
 (with_reducible repeat (first|refine go_p ?_|refine go_n ?_|refine Zb3 (by first|assumption|exact ZaI.f_eq _) ?_|dsimp only))
 refine scanB g.length (λ i=>Zz.l0 (g.length:Int) g (g.length:Int) i g) (λ a=>(row g a).length=g.length/\AllIn g.length (row g a)) _ (λ i h0 h1 _ => ?_) (λ ht => ?_)
 ·
  have ha:=areIn g.length (row g i) (Zka hr h0 h1);refine⟨λ h => ?_,λ h => ?_⟩ <;> (rw[Zz.l0_eq])
  ·
   have h1:=h.1;rw[B_pos h.2]at ha
   ((with_reducible repeat (first|refine go_p ?_|refine go_n ?_|refine go_b ?_|dsimp only));first|done|(with_reducible rfl)|simp (disch:=omega) only[w64])
  ·
   by_cases h2:((row g i).length:Int)=g.length
   ·
    rw[B_neg λ h3=>h ⟨by omega,h3⟩]at ha
    ((with_reducible repeat (first|refine go_p ?_|refine go_n ?_|refine go_b ?_|dsimp only));first|done|(with_reducible rfl)|simp (disch:=omega) only[w64])
   ·((with_reducible repeat (first|refine go_p ?_|refine go_n ?_|refine go_b ?_|dsimp only));first|done|(with_reducible rfl)|simp (disch:=omega) only[w64])
 (rw[Zz.l0_eq])
 (with_reducible repeat (first|refine go_p ?_|refine go_n ?_|refine go_b ?_|dsimp only))
 refine scanT g.length (λ i=>Zz.l1 (g.length:Int) (g.length:Int) i g) (Law g) (λ a a0 a1 _ => ?_) (λ _ => ?_)
 rotate_left
 ·
  (rw[Zz.l1_eq])
  ((with_reducible repeat (first|refine go_p ?_|refine go_n ?_|refine go_b ?_|dsimp only));first|done|(with_reducible rfl)|simp (disch:=omega) only[w64])
 have hlen:∀x:Int,0<=x->x < g.length->((row g x).length:Int)=g.length:=λ x x0 x1=>by rw[(ht x x0 x1).1]
 have hent:∀x y:Int,0<=x->x < g.length->0<=y->y < g.length->0<=T g x y/\T g x y < g.length:=λ x y x0 x1 y0 y1=>(ht x x0 x1).2 y y0 (by rw[hlen x x0 x1];exact y1)
 have l0:=hlen 0 (by omega) (by omega);have la:=hlen a a0 a1;have hc:=Zlm (row g a) 0 (Zka hr a0 a1);rw[Zcr (show(∃i:Int,0<=i/\i < (row g a).length/\rd (row g a) i=0)↔∃b:Int,0<=b/\b < g.length/\T g a b=0 by rw[la];exact Iff.rfl)]at hc
 by_cases h2:T g 0 a=a
 rotate_left
 ·
  refine⟨λ h=>absurd h.1 h2,λ _ => ?_⟩
  (rw[Zz.l1_eq])
  ((with_reducible repeat (first|refine go_p ?_|refine go_n ?_|refine go_b ?_|dsimp only));first|done|(with_reducible rfl)|simp (disch:=omega) only[w64])
 by_cases h3:T g a 0=a
 rotate_left
 ·
  refine⟨λ h=>absurd h.2.1 h3,λ _ => ?_⟩
  (rw[Zz.l1_eq])
  ((with_reducible repeat (first|refine go_p ?_|refine go_n ?_|refine go_b ?_|dsimp only));first|done|(with_reducible rfl)|simp (disch:=omega) only[w64])
 by_cases h4:∃b:Int,0<=b/\b < g.length/\T g a b=0
 rotate_left
 ·
  refine⟨λ h=>absurd h.2.2.1 h4,λ _ => ?_⟩;rw[B_neg h4]at hc
  (rw[Zz.l1_eq])
  ((with_reducible repeat (first|refine go_p ?_|refine go_n ?_|refine go_b ?_|dsimp only));first|done|(with_reducible rfl)|simp (disch:=omega) only[w64])
 rw[B_pos h4]at hc;have inner:=scanI g.length (λ b=>Zz.l2 (g.length:Int) a (g.length:Int) a (g.length:Int) b g) (λ b=>∀c:Int,0<=c->c < g.length->T g (T g a b) c=T g a (T g b c)) (some false) (Zz.l1 (g.length:Int) (g.length:Int) (a+1) g)
  (λ b b0 b1 _=>by
   obtain⟨e0,e1⟩:=hent a b a0 a1 b0 b1;have le:=hlen _ e0 e1;have lb:=hlen b b0 b1;have:=scanI g.length (λ c=>Zz.l3 (g.length:Int) a b (g.length:Int) a (g.length:Int) b (g.length:Int) c g) (λ c=>T g (T g a b) c=T g a (T g b c)) (some false) (Zz.l2 (g.length:Int) a (g.length:Int) a (g.length:Int) (b+1) g)
    (λ c c0 c1 _=>by obtain⟨f0,f1⟩:=hent b c b0 b1 c0 c1;refine⟨λ h => ?_,λ h => ?_⟩ <;> (rw[Zz.l3_eq]) <;> ((with_reducible repeat (first|refine go_p ?_|refine go_n ?_|refine go_b ?_|dsimp only));first|done|(with_reducible rfl)|simp (disch:=omega) only[w64])) (λ _=>by(rw[Zz.l3_eq]);((with_reducible repeat (first|refine go_p ?_|refine go_n ?_|refine go_b ?_|dsimp only));first|done|(with_reducible rfl)|simp (disch:=omega) only[w64]))
   refine⟨λ h => ?_,λ h => ?_⟩ <;> (rw[Zz.l2_eq])
   ·
    (with_reducible repeat (first|refine go_p ?_|refine go_n ?_|refine go_b ?_|dsimp only))
    exact this.1 h
   ·
    (with_reducible repeat (first|refine go_p ?_|refine go_n ?_|refine go_b ?_|dsimp only))
    exact this.2 h) (λ _=>by(rw[Zz.l2_eq]);((with_reducible repeat (first|refine go_p ?_|refine go_n ?_|refine go_b ?_|dsimp only));first|done|(with_reducible rfl)|simp (disch:=omega) only[w64]))
 refine⟨λ h => ?_,λ h => ?_⟩ <;> (rw[Zz.l1_eq]) <;> (with_reducible repeat (first|refine go_p ?_|refine go_n ?_|refine go_b ?_|dsimp only))
 ·exact inner.1 h.2.2.2
 ·exact inner.2 λ k=>h ⟨h2,h3,h4,k⟩
theorem In_ (x lo hi:Int):Zbg.f x lo hi=some (B (lo<=x/\x<=hi)):=by
 rw[Zbg.f_eq]
 by_cases h:x>=lo
 ·rw[if_pos h,ZgU,Zcr (show x<=hi↔(lo<=x/\x<=hi)from⟨λ h' => ⟨h,h'⟩,λ h' => h'.2⟩)]
 ·rw[if_neg h,B_neg (λ h' => h h'.1)]
def LawS (g:List (List Int)) (a:Int):Prop:=T g 0 a=a/\T g a 0=a/\(∀b:Int,0<=b->b < g.length->∀c:Int,0<=c->c < g.length->T g (T g a b) c=T g a (T g b c))/\∃b:Int,0<=b/\b < g.length/\T g a b=0/\T g b a=0
theorem ZmV (g:List (List Int)):Grp g↔(1<=g.length/\g.length<=8)/\Tab g/\∀a:Int,0<=a->a < g.length->LawS g a:=by
 rw[ZiY]
 constructor
 ·intro h;have hg:=(ZiY g).2 h;refine⟨h.1,h.2.1,λ a a0 a1 => ?_⟩;obtain⟨h1,h2,_,h4⟩:=h.2.2 a a0 a1;exact⟨h1,h2,h4,hg.inv2 a0 a1⟩
 ·rintro⟨h1,h2,h3⟩;refine⟨h1,h2,λ a a0 a1 => ?_⟩;obtain⟨k1,k2,k3,b,b0,b1,hb,_⟩:=h3 a a0 a1;exact⟨k1,k2,⟨b,b0,b1,hb⟩,k3⟩
theorem Is_ (g:List (List Int)):Zy.f g=some (B (Grp g)):=by
 rw[Zcr (ZmV g)]
 (rw[Zy.f_eq])
 by_cases c1:1<=(g.length:Int)/\(g.length:Int)<=8
 rotate_left
 ·
  rw[B_neg λ h=>c1 (by omega)]
  ((with_reducible repeat (first|refine go_p ?_|refine go_n ?_|refine Zb3 (by first|assumption|exact In_ _ _ _) ?_|dsimp only));first|done|(with_reducible rfl)|simp (disch:=omega) only[w64])
 rw[Zcr (show((1<=g.length/\g.length<=8)/\Tab g/\∀a:Int,0<=a->a < g.length->LawS g a)↔(Tab g/\∀a:Int,0<=a->a < g.length->LawS g a)from⟨λ h=>h.2,λ h=>⟨by omega,h⟩⟩)]
 (with_reducible repeat (first|refine go_p ?_|refine go_n ?_|refine Zb3 (by first|assumption|exact In_ _ _ _) ?_|dsimp only))
 have hw1:wrapI ((g.length:Int) - 1)=g.length - 1:=w64 (by omega) (by omega);refine scanB g.length (λ i=>Zy.l0 (g.length:Int) i g) (λ a=>(row g a).length=g.length/\AllIn g.length (row g a)) (∀a:Int,0<=a->a < g.length->LawS g a) (λ a a0 a1 _ => ?_) (λ ht => ?_)
 ·
  by_cases h2:((row g a).length:Int)=g.length
  rotate_left
  ·
   refine⟨λ h=>absurd h.1 (by omega),λ _ => ?_⟩
   (rw[Zy.l0_eq])
   ((with_reducible repeat (first|refine go_p ?_|refine go_n ?_|refine go_b ?_|dsimp only));first|done|(with_reducible rfl)|simp (disch:=omega) only[w64])
  have inner:=scanI g.length (λ b=>Zy.l1 (g.length:Int) a b g) (λ b=>0<=T g a b/\T g a b < g.length) (some false) (Zy.l0 (g.length:Int) (a+1) g)
   (λ b b0 b1 _=>by refine⟨λ h => ?_,λ h => ?_⟩ <;> (rw[Zy.l1_eq,hw1]) <;> ((with_reducible repeat (first|refine go_p ?_|refine go_n ?_|refine Zb3 (by first|assumption|exact In_ _ _ _) ?_|dsimp only));first|done|(with_reducible rfl)|simp (disch:=omega) only[w64])) (λ _=>by(rw[Zy.l1_eq]);((with_reducible repeat (first|refine go_p ?_|refine go_n ?_|refine go_b ?_|dsimp only));first|done|(with_reducible rfl)|simp (disch:=omega) only[w64]))
  refine⟨λ h => ?_,λ h => ?_⟩ <;> (rw[Zy.l0_eq]) <;> (with_reducible repeat (first|refine go_p ?_|refine go_n ?_|refine go_b ?_|dsimp only))
  ·exact inner.1 λ j j0 j1=>h.2 j j0 (by omega)
  ·exact inner.2 λ k=>h ⟨by omega,λ j j0 j1=>k j j0 (by omega)⟩
 (rw[Zy.l0_eq])
 (with_reducible repeat (first|refine go_p ?_|refine go_n ?_|refine go_b ?_|dsimp only))
 refine scanT g.length (λ i=>Zy.l2 (g.length:Int) i g) (LawS g) (λ a a0 a1 _ => ?_) (λ _=>by(rw[Zy.l2_eq]);((with_reducible repeat (first|refine go_p ?_|refine go_n ?_|refine go_b ?_|dsimp only));first|done|(with_reducible rfl)|simp (disch:=omega) only[w64]))
 have hlen:∀x:Int,0<=x->x < g.length->((row g x).length:Int)=g.length:=λ x x0 x1=>by rw[(ht x x0 x1).1]
 have hent:∀x y:Int,0<=x->x < g.length->0<=y->y < g.length->0<=T g x y/\T g x y < g.length:=λ x y x0 x1 y0 y1=>(ht x x0 x1).2 y y0 (by rw[hlen x x0 x1];exact y1)
 have l0:=hlen 0 (by omega) (by omega);have la:=hlen a a0 a1
 by_cases h2:T g 0 a=a
 rotate_left
 ·
  refine⟨λ h=>absurd h.1 h2,λ _ => ?_⟩
  (rw[Zy.l2_eq])
  ((with_reducible repeat (first|refine go_p ?_|refine go_n ?_|refine go_b ?_|dsimp only));first|done|(with_reducible rfl)|simp (disch:=omega) only[w64])
 by_cases h3:T g a 0=a
 rotate_left
 ·
  refine⟨λ h=>absurd h.2.1 h3,λ _ => ?_⟩
  (rw[Zy.l2_eq])
  ((with_reducible repeat (first|refine go_p ?_|refine go_n ?_|refine go_b ?_|dsimp only));first|done|(with_reducible rfl)|simp (disch:=omega) only[w64])
 let Fd:Int->Prop:=λ b=>∃j:Int,0<=j/\j < b/\T g a j=0/\T g j a=0
 have fd0:B (Fd 0)=false:=B_neg λ⟨j,j0,j1,_⟩=>by omega
 have inner:=scan g.length (λ b=>Zy.l3 (g.length:Int) a (B (Fd b)) b g) (λ b=>∀c:Int,0<=c->c < g.length->T g (T g a b) c=T g a (T g b c)) (some false) (λ b b0 b1 _=>by
  obtain⟨e0,e1⟩:=hent a b a0 a1 b0 b1;have le:=hlen _ e0 e1;have lb:=hlen b b0 b1;have toj:Zy.l3 (g.length:Int) a (B (Fd b)) b g=Zy.l4 (g.length:Int) a (B (Fd (b+1))) b 0 g:=by
   by_cases k1:Fd b
   ·
    rw[B_pos k1,B_pos (show Fd (b+1)from by obtain⟨j,j0,j1,h⟩:=k1;exact⟨j,j0,by omega,h⟩)]
    (rw[Zy.l3_eq])
    ((with_reducible repeat (first|refine go_p ?_|refine go_n ?_|refine go_b ?_|dsimp only));first|done|(with_reducible rfl)|simp (disch:=omega) only[w64])
   ·
    rw[B_neg k1]
    by_cases k2:T g a b=0
    ·
     have e:B (Fd (b+1))=decide (T g b a=0):=by
      by_cases k3:T g b a=0
      ·rw[B_pos ⟨b,b0,by omega,k2,k3⟩];simp[k3]
      ·
       rw[B_neg]
       ·simp[k3]
       ·
        rintro⟨j,j0,j1,ja,jb⟩
        by_cases ej:j=b
        ·subst ej;exact k3 jb
        ·exact k1 ⟨j,j0,by omega,ja,jb⟩
     rw[e]
     (rw[Zy.l3_eq])
     ((with_reducible repeat (first|refine go_p ?_|refine go_n ?_|refine go_b ?_|dsimp only));first|done|(with_reducible rfl)|simp (disch:=omega) only[w64])
    ·
     rw[B_neg (show ¬ Fd (b+1)from by
      rintro⟨j,j0,j1,ja,jb⟩
      by_cases ej:j=b
      ·subst ej;exact k2 ja
      ·exact k1 ⟨j,j0,by omega,ja,jb⟩)]
     (rw[Zy.l3_eq])
     ((with_reducible repeat (first|refine go_p ?_|refine go_n ?_|refine go_b ?_|dsimp only));first|done|(with_reducible rfl)|simp (disch:=omega) only[w64])
  have inner4:=scanI g.length (λ c=>Zy.l4 (g.length:Int) a (B (Fd (b+1))) b c g) (λ c=>T g (T g a b) c=T g a (T g b c)) (some false) (Zy.l3 (g.length:Int) a (B (Fd (b+1))) (b+1) g) (λ c c0 c1 _=>by obtain⟨f0,f1⟩:=hent b c b0 b1 c0 c1;refine⟨λ h => ?_,λ h => ?_⟩ <;> (rw[Zy.l4_eq]) <;> ((with_reducible repeat (first|refine go_p ?_|refine go_n ?_|refine go_b ?_|dsimp only));first|done|(with_reducible rfl)|simp (disch:=omega) only[w64])) (λ _=>by(rw[Zy.l4_eq]);((with_reducible repeat (first|refine go_p ?_|refine go_n ?_|refine go_b ?_|dsimp only));first|done|(with_reducible rfl)|simp (disch:=omega) only[w64]))
  exact⟨λ h=>toj.trans (inner4.1 h),λ h=>toj.trans (inner4.2 h)⟩)
 have st:Zy.l2 (g.length:Int) a g=Zy.l3 (g.length:Int) a (B (Fd 0)) 0 g:=by
  rw[fd0]
  (rw[Zy.l2_eq])
  ((with_reducible repeat (first|refine go_p ?_|refine go_n ?_|refine go_b ?_|dsimp only));first|done|(with_reducible rfl)|simp (disch:=omega) only[w64])
 rw[st];rcases inner with ⟨h5,h6⟩|⟨b,b0,b1,_,h5,_,h6⟩
 ·
  simp only[h6]
  by_cases h7:Fd g.length
  ·
   refine⟨λ _ => ?_,λ h=>absurd ⟨h2,h3,h5,h7⟩ h⟩;rw[B_pos h7]
   (rw[Zy.l3_eq])
   ((with_reducible repeat (first|refine go_p ?_|refine go_n ?_|refine go_b ?_|dsimp only));first|done|(with_reducible rfl)|simp (disch:=omega) only[w64])
  ·
   refine⟨λ h=>absurd h.2.2.2 h7,λ h => ?_⟩;rw[B_neg h7]
   (rw[Zy.l3_eq])
   ((with_reducible repeat (first|refine go_p ?_|refine go_n ?_|refine go_b ?_|dsimp only));first|done|(with_reducible rfl)|simp (disch:=omega) only[w64])
 ·exact⟨λ h=>absurd (h.2.2.1 b b0 b1) h5,λ _=>h6⟩
theorem gcd0 (y:Nat):∀x:Nat,Zbj.l0 (x:Int) (y:Int)=some ((Nat.gcd x y:Nat):Int):=by
 induction y using Nat.strongRecOn with
 | _ y ih =>
  intro x
  (rw[Zbj.l0_eq])
  by_cases h:y=0
  ·subst h;simp
  ·
   have e:Int.tmod (x:Int) (y:Int)=((x%y:Nat):Int):=by rw[Int.ofNat_tmod]
   have:=ih (x%y) (Nat.mod_lt _ (by omega)) y;rw[show Nat.gcd y (x%y)=Nat.gcd x y by rw[Nat.gcd_comm x y,Nat.gcd_rec y x,Nat.gcd_comm]]at this;rw[e]
   (with_reducible repeat (first|refine go_p ?_|refine go_n ?_|refine go_b ?_|dsimp only))
   exact this
theorem gcd_ {a b:Int} (ha:0<=a) (hb:0<=b):Zbj.f a b=some ((Int.gcd a b:Nat):Int):=by
 obtain⟨x,rfl⟩:=Int.eq_ofNat_of_zero_le ha;obtain⟨y,rfl⟩:=Int.eq_ofNat_of_zero_le hb;have:=gcd0 y x;rw[Zbj.f_eq]
 simpa [Int.gcd] using this
theorem Gcd0 (y:Nat):∀x:Nat,x<=9223372036854775807->y<=9223372036854775807->Zay.l0 (x:Int) (y:Int)=some ((Nat.gcd x y:Nat):Int):=by
 induction y using Nat.strongRecOn with
 | _ y ih =>
  intro x hx hy
  (rw[Zay.l0_eq])
  by_cases h:y=0
  ·
   subst h;have hw:wrapI (0 - (x:Int)) = -(x:Int):=by rw[w64 (by omega) (by omega)];omega
   rw[hw,if_pos (by simp),if_neg (by omega)];simp
  ·
   have e:Int.tmod (x:Int) (y:Int)=((x%y:Nat):Int):=by rw[Int.ofNat_tmod]
   have hlt:=Nat.mod_lt x (show y > 0 by omega);have:=ih (x%y) hlt y hy (by omega);rw[show Nat.gcd y (x%y)=Nat.gcd x y by rw[Nat.gcd_comm x y,Nat.gcd_rec y x,Nat.gcd_comm]]at this;rw[e]
   (with_reducible repeat (first|refine go_p ?_|refine go_n ?_|refine go_b ?_|dsimp only))
   exact this
theorem Gcd_ {a b:Int} (ha:0<=a) (hb:0<=b) (ha' : a<=9223372036854775807) (hb' : b<=9223372036854775807):Zay.f a b=some ((Int.gcd a b:Nat):Int):=by
 obtain⟨x,rfl⟩:=Int.eq_ofNat_of_zero_le ha;obtain⟨y,rfl⟩:=Int.eq_ofNat_of_zero_le hb;have:=Gcd0 y x (by omega) (by omega);rw[Zay.f_eq]
 simpa [Int.gcd] using this
theorem Grp.foldl_in {g:List (List Int)} (hg:Grp g):∀(xs:List Int) (x:Int),AllIn g.length xs->0<=x->x < g.length->0<=xs.foldl (T g) x/\xs.foldl (T g) x < g.length:=by
 intro xs
 induction xs with
 | nil=>exact λ x _ a b=>⟨a,b⟩
 | cons y ys ih =>
  intro x hx x0 x1;obtain⟨y0,y1⟩:=hx.mem (List.mem_cons_self ..);obtain⟨z0,z1⟩:=hg.ent x y x0 x1 y0 y1;exact ih _ (ZbO λ z hz=>hx.mem (List.mem_cons_of_mem _ hz)) z0 z1
theorem Zg7 {xs:List Int} {m:Nat} (h:m < xs.length):xs.drop m=rd xs m :: xs.drop (m+1):=by rw[List.drop_eq_getElem_cons h,rd_get h]
theorem Zet {xs:List Int} {m:Nat} (h:m < xs.length):xs.take (m+1)=xs.take m++[rd xs m]:=by rw[List.take_succ_eq_append_getElem h,rd_get h]
theorem times {g:List (List Int)} (hg:Grp g) (xs:List Int) (hx:AllIn g.length xs) (hl:xs.length<=maxLen):ZR.f g xs=some (xs.foldl (T g) 0):=by
 have hm:=Zdd;have n1:=hg.n1;rw[ZR.f_eq];have:=up xs.length (λ i=>ZR.l0 ((xs.take i).foldl (T g) 0) xs (xs.length:Int) (i:Int) g) (λ i hi=>by
  obtain⟨z0,z1⟩:=hg.foldl_in (xs.take i) 0 (hx.take i) (by omega) (by omega);obtain⟨y0,y1⟩:=hx i (by omega) (by omega);have hr:((row g ((xs.take i).foldl (T g) 0)).length:Int)=g.length:=by rw[hg.row _ z0 z1]
  have hw:wrapI ((i:Int)+1)=((i+1:Nat):Int):=by rw[w64 (by omega) (by omega)];omega
  rw[Zet hi,List.foldl_append,List.foldl_cons,List.foldl_nil]
  (rw[ZR.l0_eq,hw])
  ((with_reducible repeat (first|refine go_p ?_|refine go_n ?_|refine go_b ?_|dsimp only));first|done|(with_reducible rfl)|simp (disch:=omega) only[w64]))
 simp only[List.take_zero,List.foldl_nil,List.take_length,Int.natCast_zero]at this;rw[this]
 (rw[ZR.l0_eq])
 ((with_reducible repeat (first|refine go_p ?_|refine go_n ?_|refine go_b ?_|dsimp only));first|done|(with_reducible rfl)|simp (disch:=omega) only[w64])
theorem times2 {g:List (List Int)} (hg:Grp g) {x y:Int} (x0:0<=x) (x1:x < g.length) (y0:0<=y) (y1:y < g.length):ZR.f g [x,y]=some (T g x y):=by
 have:=times hg [x,y] (Zdb x0 x1 y0 y1) (by unfold maxLen;simp)
 simpa [hg.one x x0 x1] using this
structure Mdl (g:List (List Int)) (m:Int) (u:List Int):Prop where
 m2:2<=m
 m12:m<=12
 len:u.length=g.length
 unit:∀i:Int,0<=i->i < u.length->1<=rd u i/\rd u i < m/\Int.gcd (rd u i) m=1
 hom:∀i:Int,0<=i->i < u.length->∀j:Int,0<=j->j < u.length->rd u (T g i j)=rd u i*rd u j%m
theorem Znm:∀m:Nat,m<=12->∀u:Nat,u < m->Nat.gcd u m=1->u=u*u%m->1<=u->u=1:=by decide
theorem Mdl.one {g:List (List Int)} {m:Int} {u:List Int} (hg:Grp g) (h:Mdl g m u):rd u 0=1:=by
 have n1:=hg.n1;have hl:=h.len;obtain⟨a1,a2,a3⟩:=h.unit 0 (by omega) (by omega);have e:=h.hom 0 (by omega) (by omega) 0 (by omega) (by omega);rw[hg.one 0 (by omega) (by omega)]at e;have m2:=h.m2;have m12:=h.m12
 obtain⟨M,rfl⟩:=Int.eq_ofNat_of_zero_le (show 0<=m by omega);obtain⟨U,hU⟩:=Int.eq_ofNat_of_zero_le (show 0<=rd u 0 by omega);rw[hU]at a1 a2 a3 e ⊢;have:=Znm M (by omega) U (by omega) (by simpa [Int.gcd] using a3) (by exact_mod_cast e) (by omega);omega
theorem Zc5 {a b m:Int} (a0:0<=a) (a1:a < m) (b0:0<=b) (b1:b < m) (hm:m<=1000):0<=a*b/\a*b<=1000000:=by refine⟨Int.mul_nonneg a0 b0,?_⟩;have h1:a*b<=1000*b:=Int.mul_le_mul_of_nonneg_right (by omega) b0;omega
theorem Mdl.at {g:List (List Int)} {m:Int} {u:List Int} (h:Mdl g m u) {x:Int} (x0:0<=x) (x1:x < g.length):1<=rd u x/\rd u x < m:=by have hl:=h.len;obtain⟨a,b,_⟩:=h.unit x x0 (by omega);exact⟨a,b⟩
theorem ZgQ {m x:Int} {u:List Int} {g:List (List Int)} (hm:Mdl g m u) (x0:0<=x) (x1:x < g.length) {b:Int} (b0:0<=b) (b1:b < m):0<=rd u x*b/\rd u x*b<=1000000:=by have m12:=hm.m12;have:=hm.at x0 x1;exact Zc5 (by omega) this.2 b0 b1 (by omega)
theorem Zo2 {m x:Int} (m0:0<=m):Zbn.f m x=some (B (1<=x/\x < m/\Int.gcd x m=1)):=by
 rw[Zbn.f_eq]
 by_cases h1:1<=x/\x < m
 ·
  have h:=gcd_ m0 (show 0<=x by omega)
  (with_reducible repeat (first|refine go_p ?_|refine go_n ?_|refine go_b ?_|dsimp only))
  rw[Int.gcd_comm]
  by_cases h3:Int.gcd x m=1
  ·rw[B_pos ⟨h1.1,h1.2,h3⟩];simp[h3]
  ·rw[B_neg λ h=>h3 h.2.2];simp;omega
 ·
  rw[B_neg λ h=>h1 ⟨h.1,h.2.1⟩]
  by_cases h2:1<=x <;> ((with_reducible repeat (first|refine go_p ?_|refine go_n ?_|refine go_b ?_|dsimp only));first|done|(with_reducible rfl)|simp (disch:=omega) only[w64])
theorem ZeD (m:Int):Za2.f m=some (B (2<=m/\m<=12)):=by
 rw[Za2.f_eq]
 by_cases h:m>=2
 ·rw[if_pos h,ZgU,Zcr (show m<=12↔(2<=m/\m<=12)from⟨λ h' => ⟨h,h'⟩,λ h' => h'.2⟩)]
 ·rw[if_neg h,B_neg (λ h' => h h'.1)]
theorem ZlM (g:List (List Int)) (m:Int) (u:List Int):Mdl g m u↔(2<=m/\m<=12)/\u.length=g.length/\(∀i:Int,0<=i->i < u.length->1<=rd u i/\rd u i < m/\Int.gcd (rd u i) m=1)/\∀i:Int,0<=i->i < u.length->∀j:Int,0<=j->j < u.length->rd u (T g i j)=rd u i*rd u j%m :=
 ⟨λ h=>⟨⟨h.m2,h.m12⟩,h.len,h.unit,h.hom⟩,λ⟨⟨a,b⟩,c,d,e⟩=>⟨a,b,c,d,e⟩⟩
theorem ZmZ {g:List (List Int)} (hg:Grp g) (m:Int) (u:List Int) (hl:u.length<=maxLen):ZH.f g m u=some (B (Mdl g m u)):=by
 have hm:=Zdd;have n1:=hg.n1
 (rw[ZH.f_eq])
 by_cases h1:2<=m/\m<=12
 rotate_left
 ·
  rw[B_neg λ h=>h1 ⟨h.m2,h.m12⟩]
  ((with_reducible repeat (first|refine go_p ?_|refine go_n ?_|refine Zb3 (by first|assumption|exact ZeD _|exact ZaI.f_eq _) ?_|dsimp only));first|done|(with_reducible rfl)|simp (disch:=omega) only[w64])
 by_cases h3:(u.length:Int)=g.length
 rotate_left
 ·
  rw[B_neg λ h=>h3 (by rw[h.len])]
  ((with_reducible repeat (first|refine go_p ?_|refine go_n ?_|refine Zb3 (by first|assumption|exact ZeD _|exact ZaI.f_eq _) ?_|dsimp only));first|done|(with_reducible rfl)|simp (disch:=omega) only[w64])
 by_cases h5:rd u 0=1
 rotate_left
 ·
  rw[B_neg λ h=>h5 (h.one hg)]
  ((with_reducible repeat (first|refine go_p ?_|refine go_n ?_|refine Zb3 (by first|assumption|exact ZeD _|exact ZaI.f_eq _) ?_|dsimp only));first|done|(with_reducible rfl)|simp (disch:=omega) only[w64])
 (with_reducible repeat (first|refine go_p ?_|refine go_n ?_|refine Zb3 (by first|assumption|exact ZeD _|exact ZaI.f_eq _) ?_|dsimp only))
 rw[Zcr (ZlM g m u),Zcr (show((2<=m/\m<=12)/\u.length=g.length/\(∀i:Int,0<=i->i < u.length->1<=rd u i/\rd u i < m/\Int.gcd (rd u i) m=1)/\∀i:Int,0<=i->i < u.length->∀j:Int,0<=j->j < u.length->rd u (T g i j)=rd u i*rd u j%m)↔_ from⟨λ h=>h.2.2,λ h=>⟨h1,by omega,h⟩⟩)];refine scanB u.length (λ i=>ZH.l0 u (u.length:Int) i g m u) (λ i=>1<=rd u i/\rd u i < m/\Int.gcd (rd u i) m=1) _ (λ i i0 i1 _ => ?_) (λ hu => ?_)
 ·have hu:=Zo2 (m:=m) (x:=rd u i) (by omega);refine⟨λ h => ?_,λ h => ?_⟩ <;> (rw[ZH.l0_eq]) <;> ((with_reducible repeat (first|refine go_p ?_|refine go_n ?_|refine go_b ?_|dsimp only));first|done|(with_reducible rfl)|simp (disch:=omega) only[w64])
 (rw[ZH.l0_eq])
 (with_reducible repeat (first|refine go_p ?_|refine go_n ?_|refine Zb3 (by first|assumption|exact ZaI.f_eq _) ?_|dsimp only))
 rw[<-h3];refine scanT u.length (λ i=>ZH.l1 (u.length:Int) i g m u) (λ i=>∀j:Int,0<=j->j < u.length->rd u (T g i j)=rd u i*rd u j%m) (λ i i0 i1 _ => ?_) (λ _=>by(rw[ZH.l1_eq]);((with_reducible repeat (first|refine go_p ?_|refine go_n ?_|refine go_b ?_|dsimp only));first|done|(with_reducible rfl)|simp (disch:=omega) only[w64]));have inner:=scanI u.length (λ j=>ZH.l2 i (u.length:Int) i (u.length:Int) j g m u) (λ j=>rd u (T g i j)=rd u i*rd u j%m) (some false) (ZH.l1 (u.length:Int) (i+1) g m u) (λ j j0 j1 _=>by have ht:=times2 hg i0 (by omega) j0 (by omega);obtain⟨e0,e1⟩:=hg.ent i j i0 (by omega) j0 (by omega);obtain⟨p0,p1⟩:=Zc5 (show 0<=rd u i by have:=(hu i i0 i1).1;omega) (hu i i0 i1).2.1 (show 0<=rd u j by have:=(hu j j0 j1).1;omega) (hu j j0 j1).2.1 (by omega);have hwp:wrapI (rd u i*rd u j)=rd u i*rd u j:=w64 (by omega) (by omega);have e:=Zcc (m:=m) p0;refine⟨λ h => ?_,λ h => ?_⟩ <;> (rw[ZH.l2_eq,hwp,e]) <;> ((with_reducible repeat (first|refine go_p ?_|refine go_n ?_|refine go_b ?_|dsimp only));first|done|(with_reducible rfl)|simp (disch:=omega) only[w64])) (λ _=>by(rw[ZH.l2_eq]);((with_reducible repeat (first|refine go_p ?_|refine go_n ?_|refine go_b ?_|dsimp only));first|done|(with_reducible rfl)|simp (disch:=omega) only[w64]))
 refine⟨λ h => ?_,λ h => ?_⟩ <;> (rw[ZH.l1_eq]) <;> (with_reducible repeat (first|refine go_p ?_|refine go_n ?_|refine Zb3 (by first|assumption|exact ZaI.f_eq _) ?_|dsimp only)) <;> rw[<-h3]
 ·exact inner.1 h
 ·exact inner.2 h
theorem Is02 {g:List (List Int)} (hg:Grp g) (m:Int) (u:List Int) (hl:u.length<=maxLen):Zae.f g m u=some (B (Mdl g m u)):=by
 have hm:=Zdd;have n1:=hg.n1
 (rw[Zae.f_eq])
 by_cases h1:2<=m/\m<=12
 rotate_left
 ·
  rw[B_neg λ h=>h1 ⟨h.m2,h.m12⟩]
  ((with_reducible repeat (first|refine go_p ?_|refine go_n ?_|refine Zb3 (by first|assumption|exact In_ _ _ _) ?_|dsimp only));first|done|(with_reducible rfl)|simp (disch:=omega) only[w64])
 by_cases h3:(u.length:Int)=g.length
 rotate_left
 ·
  rw[B_neg λ h=>h3 (by rw[h.len])]
  ((with_reducible repeat (first|refine go_p ?_|refine go_n ?_|refine Zb3 (by first|assumption|exact In_ _ _ _) ?_|dsimp only));first|done|(with_reducible rfl)|simp (disch:=omega) only[w64])
 (with_reducible repeat (first|refine go_p ?_|refine go_n ?_|refine Zb3 (by first|assumption|exact In_ _ _ _) ?_|dsimp only))
 rw[Zcr (ZlM g m u),Zcr (show((2<=m/\m<=12)/\u.length=g.length/\(∀i:Int,0<=i->i < u.length->1<=rd u i/\rd u i < m/\Int.gcd (rd u i) m=1)/\∀i:Int,0<=i->i < u.length->∀j:Int,0<=j->j < u.length->rd u (T g i j)=rd u i*rd u j%m)↔_ from⟨λ h=>h.2.2,λ h=>⟨h1,by omega,h⟩⟩)];have hw1:wrapI (m - 1)=m - 1:=w64 (by omega) (by omega);refine scanB u.length (λ i=>Zae.l0 i g m u) (λ i=>1<=rd u i/\rd u i < m/\Int.gcd (rd u i) m=1) _ (λ i i0 i1 _ => ?_) (λ hu => ?_)
 ·
  refine⟨λ h => ?_,λ h => ?_⟩ <;> (rw[Zae.l0_eq,hw1])
  ·
   have hgc:=Gcd_ (a:=rd u i) (b:=m) (by omega) (by omega) (by omega) (by omega)
   ((with_reducible repeat (first|refine go_p ?_|refine go_n ?_|refine Zb3 (by first|assumption|exact In_ _ _ _) ?_|dsimp only));first|done|(with_reducible rfl)|simp (disch:=omega) only[w64])
  ·
   by_cases h6:1<=rd u i/\rd u i < m
   ·
    have hgc:=Gcd_ (a:=rd u i) (b:=m) (by omega) (by omega) (by omega) (by omega)
    ((with_reducible repeat (first|refine go_p ?_|refine go_n ?_|refine Zb3 (by first|assumption|exact In_ _ _ _) ?_|dsimp only));first|done|(with_reducible rfl)|simp (disch:=omega) only[w64])
   ·((with_reducible repeat (first|refine go_p ?_|refine go_n ?_|refine Zb3 (by first|assumption|exact In_ _ _ _) ?_|dsimp only));first|done|(with_reducible rfl)|simp (disch:=omega) only[w64])
 (rw[Zae.l0_eq])
 (with_reducible repeat (first|refine go_p ?_|refine go_n ?_|refine go_b ?_|dsimp only))
 refine scanT u.length (λ i=>Zae.l1 i g m u) (λ i=>∀j:Int,0<=j->j < u.length->rd u (T g i j)=rd u i*rd u j%m) (λ i i0 i1 _ => ?_) (λ _=>by(rw[Zae.l1_eq]);((with_reducible repeat (first|refine go_p ?_|refine go_n ?_|refine go_b ?_|dsimp only));first|done|(with_reducible rfl)|simp (disch:=omega) only[w64]))
 have ri:=hg.row i i0 (by omega);have inner:=scanI u.length (λ j=>Zae.l2 i j g m u) (λ j=>rd u (T g i j)=rd u i*rd u j%m) (some false) (Zae.l1 (i+1) g m u) (λ j j0 j1 _=>by obtain⟨e0,e1⟩:=hg.ent i j i0 (by omega) j0 (by omega);obtain⟨p0,p1⟩:=Zc5 (show 0<=rd u i by have:=(hu i i0 i1).1;omega) (hu i i0 i1).2.1 (show 0<=rd u j by have:=(hu j j0 j1).1;omega) (hu j j0 j1).2.1 (by omega);have hwp:wrapI (rd u i*rd u j)=rd u i*rd u j:=w64 (by omega) (by omega);have e:=Zcc (m:=m) p0;refine⟨λ h => ?_,λ h => ?_⟩ <;> (rw[Zae.l2_eq,hwp,e]) <;> ((with_reducible repeat (first|refine go_p ?_|refine go_n ?_|refine go_b ?_|dsimp only));first|done|(with_reducible rfl)|simp (disch:=omega) only[w64])) (λ _=>by(rw[Zae.l2_eq]);((with_reducible repeat (first|refine go_p ?_|refine go_n ?_|refine go_b ?_|dsimp only));first|done|(with_reducible rfl)|simp (disch:=omega) only[w64]))
 refine⟨λ h => ?_,λ h => ?_⟩ <;> (rw[Zae.l1_eq]) <;> (with_reducible repeat (first|refine go_p ?_|refine go_n ?_|refine go_b ?_|dsimp only))
 ·exact inner.1 h
 ·exact inner.2 h
def GM (g:List (List Int)) (m:Int) (u:List Int):Prop:=Grp g/\Mdl g m u
theorem ZiG (g:List (List Int)) (hl:g.length<=maxLen) (hr:∀r∈g,r.length<=maxLen) (m:Int) (u:List Int) (hu:u.length<=maxLen):Zaa.f g [(m,u)]=some (B (GM g m u)):=by
 have hG:=Zof g hl hr;rw[Zaa.f_eq];have st:Zaa.l0 [(m,u)] (([(m,u)]:List (Int×List Int)).length:Int) 1 g=some true:=by(rw[Zaa.l0_eq]);exact if_neg (by simp)
 (rw[Zaa.l0_eq])
 rw[if_pos (by simp),if_pos (by simp),if_pos (by simp),hG]
 by_cases h1:Grp g
 ·
  have hM:=ZmZ h1 m u hu;rw[B_pos h1];show(Option.bind (ZH.f g m u) _)=_;rw[hM]
  by_cases h2:Mdl g m u
  ·
   rw[B_pos h2,B_pos ⟨h1,h2⟩]
   simpa [show wrapI 1=1 from w64 (by omega) (by omega)] using st
  ·
   rw[B_neg h2,B_neg λ h=>h2 h.2]
   rfl
 ·
  rw[B_neg h1,B_neg λ h=>h1 h.1]
  rfl
end Go.Proofs.YtdamfbighdkcbaaGreat.V
