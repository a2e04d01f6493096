/- What the proof of the law InvariantsOf stands on, part 7: words, each Go function's Lean function, and that the Go code comes to its answers; no condition. (Packed by wip/myprint/pack.py out of what the kit's printer wrote, its words among it, partly by our patches of it, and out of texts of this session.) -/
import Derived.ChangeSlices
import Derived.ChangeSame
import Derived.Deep.Matrix
import Derived.Lib.SmallJoins
import Derived.Test.YtdamfbighdkcbaaGreatKInvariantsOf3
import Derived.Test.YtdamfbighdkcbaaGreatKInvariantsOf4
import Derived.Test.YtdamfbighdkcbaaGreatKInvariantsOf5
import Derived.Test.YtdamfbighdkcbaaGreatKInvariantsOf6
set_option linter.unusedVariables false
set_option linter.unusedSimpArgs false
namespace Go.Proofs.YtdamfbighdkcbaaGreat.D
open Go Go.RowKit
theorem Zj4 {P:Program} {g:FuncId} {c:Con} (hv:Valid P g c) {x:lsd (flats c.ins)} {r:c.R} (hx:c.f x=some r) {w:World} {vs:List Value} (ha:ASRs P (fun _=>False) (fun k=>k < w.heap.size) w c.ins x vs (fun _=>False)) :
  Calls P g vs.toArray w fun e w' => ∃u,e = .returned u∧Below w.heap.size w w' ∧ ∃Z' Fo us,u=outV us∧ASRs P (fun _=>False) Z' w' c.outs (c.dec r).1 us Fo:=by
 refine(hv.2 x r hx (fun k=>k < w.heap.size) (fun _=>False) (fun _=>False) w vs ha (fun _ h=>h.elim) (fun _ h=>h) (fun _ h=>h.elim)).mono ?_
 rintro e w' ⟨u,rfl,Z', Fi,Fo,hp⟩
 obtain⟨us,hu,ho⟩:=hp.out
 exact⟨u,rfl,⟨hp.os,hp.tape,hp.output,hp.size,fun k hk=>hp.old k hk fun h=>h⟩,Z', Fo,us,hu,ho⟩
theorem ZmX {w:World} {a:Addr} {v:Value} (h:w.cell? a=some v):a.block < w.heap.size:=by
 unfold World.cell? at h
 cases hb:w.heap[a.block]? with
 | none=>rw[hb]at h;cases h
 | some o=>exact(Array.getElem?_eq_some_iff.1 hb).1
theorem Zjs {α : Type} {w:World} {sz:Nat} {R : α → List Value→Prop} {A:Option Addr} {c:Nat} {xs:List α} (hz:0 < sz) (hc:xs.length≤c) (hm:xs.length≤9223372036854775807)
  (h:0 < xs.length→∃ad,A=some ad∧∀(j:Nat) (p : α),xs[j]? = some p→∃cs,cs.length=sz∧R p cs∧∀(i:Nat) (u:Value),cs[i]? = some u→w.cell? (ad.add (j*sz+i))=some u):ZcQ (fun k=>k < w.heap.size) w sz R A c xs:=by
 refine⟨hc,hm,fun hl => ?_⟩
 obtain⟨ad,rfl,hcell⟩:=h hl
 refine⟨ad,rfl,?_,hcell⟩
 obtain⟨cs,h1,h2,h3⟩:=hcell 0 xs[0] (List.getElem?_eq_getElem hl)
 have:=ZmX (h3 0 cs[0] (List.getElem?_eq_getElem (by omega)))
 rwa[Zda]at this
theorem Zmb {P:Program} {g:FuncId} {c:Con} (hv:Valid P g c) {x:lsd (flats c.ins)} {r:c.R} (hx:c.f x=some r) {w:World} {vs:List Value} (ha:ASRs P (fun _=>False) (fun k=>k < w.heap.size) w c.ins x vs (fun _=>False)) (ho:c.outs=[.one (.v .bool)]) (hr:∀y:lsd (flats [.one (.v .bool)]),HEq y (c.dec r).1→y.1=true) :
  Calls P g vs.toArray w fun e w' => e = .returned (.bool true)∧Below w.heap.size w w' := by
 refine(Zj4 hv hx ha).mono ?_
 rintro e w' ⟨u,rfl,hb,Z', Fo,us,rfl,hh⟩
 refine⟨?_,hb⟩
 obtain⟨ins,outs,R,f,dec⟩:=c
 have ho:outs=[.one (.v .bool)]:=ho
 subst ho
 obtain⟨v,vs', F0,F1,rfl,h1,h2,_⟩:=hh
 cases h2
 have h1:[v]=[.bool (dec r).1.1]:=h1
 have hb1:(dec r).1.1=true:=hr _ HEq.rfl
 cases h1
 rw[hb1]
 rfl
end Go.Proofs.YtdamfbighdkcbaaGreat.D
namespace Go.Proofs.YtdamfbighdkcbaaGreat.D
open Go Go.RowKit Go.ChangeShapes Go.WideShapes Go.Joins Go.Deep
section
variable {H:Type} {enc:TypeId×Value→H} {P:Program} {w:World} {base:Nat} {held:Bool}
abbrev Zw (w:World):Nat→Prop:=fun k=>k < w.heap.size
abbrev No:Nat→Prop:=fun _=>False
theorem Zjd {q:TypeId} (hn:nf q=false) {k:IntKind} {a:Addr} {len cap:Nat} {zs:List Int} (hl:len≤cap) (hm:cap≤maxLen) (hz:zs.length=cap) (hc:∀i,i < zs.length→w.cell? (a.add i)=some (.int k (zs.getD i 0))) (hw:∀n∈zs,(Lit.int k n).wf=true) :
  ∃l:List Int,len=l.length∧l.length≤maxLen∧(∀x∈l,(Lit.int k x).wf=true)∧Rep (Zw w) w false (.sl q (.int k)) l [.slice (some a) len cap] No:=by
 have hlen:(zs.take len).length=len:=by rw[List.length_take];omega
 refine⟨zs.take len,hlen.symm,by omega,fun x hx=>hw x (List.mem_of_mem_take hx),some a,cap,by rw[hlen],?_,fun h=>by rw[hn]at h;cases h⟩
 refine Zjs Nat.one_pos (by show(zs.take len).length≤_;omega) (by show(zs.take len).length≤_;simp only[maxLen]at hm;omega) fun _=>⟨a,rfl,fun j p hj => ?_⟩
 have hj:(zs.take len)[j]? = some p:=hj
 have hjl:j < len:=by
  have:=(List.getElem?_eq_some_iff.1 hj).1
  omega
 refine⟨[.int k p],rfl,rfl,fun i u hu => ?_⟩
 cases i with
 | zero =>
  simp only[List.getElem?_cons_zero,Option.some.injEq]at hu
  subst hu
  have h:=hc j (by omega)
  have hp:zs.getD j 0=p:=by
   rw[List.getElem?_take]at hj
   simp only[hjl,if_true]at hj
   simp[List.getD,hj]
  rw[hp]at h
  simpa [Ty.size] using h
 | succ i=>simp at hu
theorem ZgE {q:TypeId} {t:Ty}:Rep (Zw w) w false (.sl q t) ([]:List t.den) [.slice none 0 0] No :=
 ⟨none,0,rfl,⟨Nat.le_refl _,Nat.zero_le _,fun h=>absurd h (by simp)⟩,fun _ _=>rfl⟩
theorem Zkt {t e:TypeId} {k:IntKind} {fuel:Nat} {v:Value} {x:DataW H×List MemPlace} (ht:P.underlying t=some (.slice e)) (he:P.underlying e=some (.int k)) (hc:P.cellsOf e=1)
  (h:DataW.trod enc P w base (fun _=>true) held fuel t [v]=some x) (hn:nf e=false:=by rfl) :
  ∃l:List Int,l.length≤maxLen∧(∀x∈l,(Lit.int k x).wf=true)∧Rep (Zw w) w false (.sl e (.int k)) l [v] No:=by
 rcases open_ints ht he hc h with ⟨hcs,_⟩|⟨a,len,cap,zs,hcs,_,hl,hm,hz,_,hcell,hw⟩
 ·
  refine⟨[],by simp,by simp,?_⟩
  rw[hcs]
  exact ZgE
 ·
  simp only[if_true]at hz
  obtain⟨l,h1,h2,h3,h4⟩:=Zjd (q:=e) hn hl hm hz hcell hw
  exact⟨l,h2,h3,by rw[hcs];exact h4⟩
theorem Zku {t e q:TypeId} {k:IntKind} {fuel:Nat} {v:Value} {x:DataW H×List MemPlace} (ht:P.underlying t=some (.slice e)) (he:P.underlying e=some (.slice q)) (hq:P.underlying q=some (.int k))
  (ce:P.cellsOf e=1) (cq:P.cellsOf q=1) (h:DataW.trod enc P w base (fun _=>true) held fuel t [v]=some x) (hne:nf e=false:=by rfl) (hn:nf q=false:=by rfl) :
  ∃l:List (List Int),l.length≤maxLen∧(∀r∈l,r.length≤maxLen∧∀x∈r,(Lit.int k x).wf=true)∧Rep (Zw w) w false (.sl e (.sl q (.int k))) l [v] No:=by
 rcases open_int_rows ht he hq ce cq h with ⟨hcs,_⟩|⟨a,len,cap,A,L,C,Z,hcs,_,hl,hm,_,hr⟩
 ·
  refine⟨[],by simp,by simp,?_⟩
  rw[hcs]
  exact ZgE
 ·
  have each:∀r,r < cap→∃y:List Int,y.length≤maxLen∧(∀x∈y,(Lit.int k x).wf=true)∧Rep (Zw w) w false (.sl q (.int k)) y [.slice (A r) (L r) (C r)] No:=by
   intro r hrc
   obtain⟨_,h1,h2,h3,h4,h5,h6⟩:=hr r hrc
   cases hA:A r with
   | none =>
    have hC:=h5 hA
    refine⟨[],by simp,by simp,?_⟩
    have hL:L r=0:=by omega
    rw[hL,hC]
    exact ZgE
   | some a' =>
    obtain⟨l,_,h7,h8,h9⟩:=Zjd (q:=q) hn h1 h2 h3 (fun i hi=>(h6 a' hA).2 i (by omega)) h4
    exact⟨l,h7,h8,h9⟩
  obtain⟨Y,hY⟩:=choose_lt each
  have hlen:((List.range len).map Y).length=len:=by simp
  refine⟨(List.range len).map Y,by omega,fun r hr' => ?_,?_⟩
  ·
   obtain⟨j,hj,rfl⟩:=List.mem_map.1 hr'
   obtain⟨h1,h2,_⟩:=hY j (by have:=List.mem_range.1 hj;omega)
   exact⟨h1,h2⟩
  ·
   rw[hcs]
   refine⟨some a,cap,by rw[hlen],?_,fun h=>by rw[hne]at h;cases h⟩
   refine Zjs Nat.one_pos (by show((List.range len).map Y).length≤_;omega) (by show((List.range len).map Y).length≤_;simp only[maxLen]at hm;omega) fun _=>⟨a,rfl,fun j p hj => ?_⟩
   have hj:((List.range len).map Y)[j]? = some p:=hj
   have hjl:j < len:=by
    have:=(List.getElem?_eq_some_iff.1 hj).1
    omega
   have hp:p=Y j:=by simpa [hjl] using hj.symm
   subst hp
   obtain⟨h1,h2,h3⟩:=hY j (by omega)
   refine⟨[.slice (A j) (L j) (C j)],rfl,h3,fun i u hu => ?_⟩
   cases i with
   | zero =>
    simp only[List.getElem?_cons_zero,Option.some.injEq]at hu
    subst hu
    have:=(hr j (by omega)).1
    simpa [Ty.size] using this
   | succ i=>simp at hu
theorem ZlS {t:TypeId} {k:IntKind} {fuel:Nat} {v:Value} {x:DataW H×List MemPlace} (ht:P.underlying t=some (.int k)) (h:DataW.trod enc P w base (fun _=>true) held fuel t [v]=some x):∃n:Int,(Lit.int k n).wf=true∧Rep (Zw w) w false (.int k) n [v] No:=by
 obtain⟨n,h1,_,h2⟩:=DataW.trod_int ht h
 exact⟨n,h2,h1⟩
theorem Zk3 {r:Reach} {b0:Nat} {t:TypeId} {f0:Field} {v:Value} {d:DataW H} {p:List MemPlace} {spare:Nat→Bool} (hs:P.underlying t=some (.struct #[f0])) (hone:oneCellFields P #[f0]=true) (hC:P.cellsOf t=1)
  (hv:Value.okWide P w r b0 t v) (h:DataW.Trod enc P w base spare held t v d p) :
  ∃(v0:Value) (y0:DataW H×List MemPlace) (n:Nat),v = .agg #[v0]∧DataW.trod enc P w base spare held n f0.type [v0]=some y0:=by
 obtain⟨cs,rfl,hsz⟩:=okWide_struct hs hv
 have hsz1:cs.size=1:=hsz.trans hC
 obtain⟨c0,rfl⟩:∃c0,cs = #[c0]:=by
  obtain⟨l⟩:=cs
  match l,hsz1 with
  | [c0],_=>exact⟨c0,rfl⟩
 obtain⟨fuel,hf⟩:=h
 obtain⟨y0,n,hx,_,h0⟩:=trod_struct1 hs hf
 obtain⟨o0,k0⟩:=hone_of hone 0 f0 rfl
 exact⟨c0,y0,n,rfl,by simpa [Value.cells,o0,k0] using h0⟩
theorem ZlK:ASRs P No (Zw w) w [] () [] No:=rfl
theorem ZlL {t:Ty} {x:t.den} {v:Value} {ins:List ASh} {y:lsd (flats ins)} {vs:List Value} (h:Rep (Zw w) w false t x [v] No) (hr:ASRs P No (Zw w) w ins y vs No):ASRs P No (Zw w) w (.one (.v t) :: ins) (x,y) (v :: vs) No :=
 ⟨v,vs,No,No,rfl,h,hr,fun _ h=>h,fun _ h=>h,fun _ h=>h.elim⟩
theorem Zkc {t:Ty} {x:t.den} {v:Value} {ins:List ASh} {y:lsd (flats ins)} {vs:List Value} (h:Rep (Zw w) w false t x [v] No) (hr:ASRs P No (Zw w) w ins y vs No):ASRs P No (Zw w) w (.agg [.v t] :: ins) (x,y) (.agg #[v] :: vs) No :=
 ⟨.agg #[v],vs,No,No,rfl,⟨[v],rfl,v,[],No,No,rfl,h,rfl,fun _ h=>h,fun _ h=>h,fun _ h=>h.elim⟩,hr,fun _ h=>h,fun _ h=>h,fun _ h=>h.elim⟩
theorem Zkd {t t' : Ty} {x:t.den} {x' : t'.den} {v v' : Value} {ins:List ASh} {y:lsd (flats ins)} {vs:List Value} (h:Rep (Zw w) w false t x [v] No) (h' : Rep (Zw w) w false t' x' [v'] No) (hr:ASRs P No (Zw w) w ins y vs No):ASRs P No (Zw w) w (.agg [.v t,.v t'] :: ins) (x,x', y) (.agg #[v,v'] :: vs) No :=
 ⟨.agg #[v,v'],vs,No,No,rfl,⟨[v,v'],rfl,v,[v'],No,No,rfl,h,⟨v', [],No,No,rfl,h', rfl,fun _ h=>h,fun _ h=>h,fun _ h=>h.elim⟩,fun _ h=>h,fun _ h=>h,fun _ h=>h.elim⟩,hr,fun _ h=>h,fun _ h=>h,fun _ h=>h.elim⟩
end
end Go.Proofs.YtdamfbighdkcbaaGreat.D
namespace Go.Proofs.YtdamfbighdkcbaaGreat.D
open Go Go.RowKit
theorem Zj3 {P:Program} {g:FuncId} {k k' : IntKind} {F:Int→Option Int} (hc:Callable P g) (h:∀(x y:Int) (w:World),F x=some y→Calls P g #[.int k x] w fun e w' => e = .returned (.int k' y)∧w' = w) :
  Valid P g ⟨[.one (.v (.int k))],[.one (.v (.int k'))],Int,fun x=>F x.1,fun r=>((r,()),())⟩:=by
 refine⟨hc,fun x r hx Z B S w vs ha hS hZ hB => ?_⟩
 obtain⟨v,vs', F0,F1,rfl,h1,h2,_⟩:=ha
 cases h2
 have h1:[v]=[.int k x.1]:=h1
 cases h1
 refine(h x.1 r w hx).mono ?_
 rintro e w' ⟨rfl,rfl⟩
 refine⟨_,rfl,Z,fun _=>False,fun _=>False,⟨⟨_,[],fun _=>False,fun _=>False,rfl,trivial,trivial,fun _ h=>h,fun _ h=>h,fun _ h=>h.elim⟩,⟨[.int k' r],rfl,_,[],fun _=>False,fun _=>False,rfl,rfl,rfl,fun _ h=>h,fun _ h=>h,fun _ h=>h.elim⟩,fun _ h=>h.elim,fun _ h=>(h.elim id id:False).elim,fun _ h=>h,fun k hk=>⟨.inl hk,hZ k hk⟩,rfl,rfl,rfl,Nat.le_refl _,fun _ _ _=>rfl⟩⟩
end Go.Proofs.YtdamfbighdkcbaaGreat.D
namespace Go.Proofs.YtdamfbighdkcbaaGreat.P
open Go Go.RowKit Go.Proofs.YtdamfbighdkcbaaGreat.D
noncomputable def bits_Len.f (a0:Int):Option Int:=if 0≤a0∧a0≤18446744073709551615 then some (Lib.bitLen a0.toNat:Int)else none
noncomputable def bits_Len.con:Con:=⟨[.one (.v (.int .u64))],[.one (.v (.int .i64))],Int,fun x=>bits_Len.f x.1,fun r=>((r,()),(()))⟩
theorem bits_Len.valid:Valid Tryz.prog 142 bits_Len.con:=Zj3 ⟨_,Tryz.func142,by kernel_rfl,by kernel_rfl⟩ fun x y w h=>by
 unfold bits_Len.f at h
 split at h
 ·
  cases h
  exact P.Tryz.bits_Len x w (by omega) (by omega)
 ·
  cases h
end Go.Proofs.YtdamfbighdkcbaaGreat.P
set_option maxRecDepth 100000
namespace Go.Proofs.YtdamfbighdkcbaaGreat.P
open Go Go.RowKit Go.Proofs.YtdamfbighdkcbaaGreat.D
noncomputable def Zag.E:Env:={ tt:=TT,con:=[(142,bits_Len.con),(141,Zq.con)],frz:=[],rows:=[],live:=[],n:=11,pin:=1,nils:=[] }
noncomputable def Zag.fn:D.Fn:={ body:=Tryz.f114.body.getD .skip,res:=Tryz.f114.results.toList,ins:=[.one (.own 2 true (.int .i64))],outs:=[] }
def Zag.enc (y:lsd (flats Zag.fn.outs)×lsd (ios Zag.fn.ins)):(List Int):=y.2.1
noncomputable def Zag.f (l0:List Int):Option (List Int):=denF Zag.E Zag.fn Zag.enc (l0,())
theorem Zag.f_eq (l0:List Int):Zag.f l0=(bits_Len.f (wr .u64 (l0.length:Int))).bind fun t9=>(Zq.f l0 0 (l0.length:Int) t9).bind fun t10=>some t10:=by kernel_rfl
noncomputable def Zag.con:Con:=⟨Zag.fn.ins,Zag.fn.outs,(List Int),fun x=>Zag.f x.1,fun r=>((()),(r,()))⟩
theorem Zag.valid:Valid Tryz.prog 114 Zag.con:=fnV Zag.fn Zag.E Zag.enc ⟨ttOk,(ZF bits_Len.valid (ZF Zq.valid Zay))⟩ Tryz.func114
end Go.Proofs.YtdamfbighdkcbaaGreat.P
namespace Go.Proofs.YtdamfbighdkcbaaGreat.P
open Go Go.RowKit Go.Proofs.YtdamfbighdkcbaaGreat.D
noncomputable def Zj.E:Env:={ tt:=TT,con:=[(110,Zm.con),(112,Za.con),(111,Zt.con),(113,ZO.con),(114,Zag.con)],frz:=[36],rows:=[],live:=[(3,[0,1,5,19,20,21]),(10,[0,5,8,36,37,38]),(14,[0,5,8,10,11,36,37,38,43,44,45])],n:=74,pin:=0,nils:=[25] }
noncomputable def Zj.fn:D.Fn:={ body:=Tryz.f82.body.getD .skip,res:=Tryz.f82.results.toList,ins:=[.ptr true 102 [.v (.int .i64),.v (.sl 25 (.sl 1000002 (.int .i64)))],.ptr true 102 [.v (.int .i64),.v (.sl 25 (.sl 1000002 (.int .i64)))]],outs:=[.one (.own 2 true (.int .i64))] }
def Zj.enc (y:lsd (flats Zj.fn.outs)×lsd (ios Zj.fn.ins)):(List Int):=y.1.1
noncomputable def Zj.f (a0_0:Int) (l0_1:List (List Int)) (a1_0:Int) (l1_1:List (List Int)):Option (List Int):=denF Zj.E Zj.fn Zj.enc (a0_0,l0_1,a1_0,l1_1,())
noncomputable def Zj.l0 (x19:List (List Int)) (x20:Int) (x21:Int) (b0_0:Int) (b0_1:List (List Int)) (b1_0:Int) (b1_1:List (List Int)) (r2:List Int):Option (List Int):=denAt Zj.E Zj.fn Zj.enc [1,1,0,1,0] { fr:=[(0,.lf (.box 0 0)),(1,.lf (.box 1 0)),(5,.lf (.own 2)),(19,.lf (.sl (.sl 1000002 (.int .i64)) x19)),(20,.lf (.int .i64 x20)),(21,.lf (.int .i64 x21))],ob:=[(0,.box 102 true [.int .i64 b0_0,.sl (.sl 1000002 (.int .i64)) b0_1]),(1,.box 102 true [.int .i64 b1_0,.sl (.sl 1000002 (.int .i64)) b1_1]),(2,.row 3 true (.int .i64) r2)],nx:=3 }
noncomputable def Zj.l1 (x36:List (List Int)) (x37:Int) (x38:Int) (b0_0:Int) (b0_1:List (List Int)) (r1:List Int) (r2:List (List Int)):Option (List Int):=denAt Zj.E Zj.fn Zj.enc [1,1,1,1,0,1,0] { fr:=[(0,.lf (.box 0 0)),(5,.lf (.own 1)),(8,.lf (.own 2)),(36,.lf (.sl (.sl 2 (.int .i64)) x36)),(37,.lf (.int .i64 x37)),(38,.lf (.int .i64 x38))],ob:=[(0,.box 102 true [.int .i64 b0_0,.sl (.sl 1000002 (.int .i64)) b0_1]),(1,.row 3 true (.int .i64) r1),(2,.row 25 true (.sl 2 (.int .i64)) r2)],nx:=3 }
noncomputable def Zj.l2 (x10:List Int) (x36:List (List Int)) (x37:Int) (x38:Int) (x44:Int) (x45:Int) (b0_0:Int) (b0_1:List (List Int)) (r1:List Int) (r2:List (List Int)) (r3:List Int):Option (List Int):=denAt Zj.E Zj.fn Zj.enc [1,1,1,1,0,1,0,0,1,1,0,0,1,1,0,1,0] { fr:=[(0,.lf (.box 0 0)),(5,.lf (.own 1)),(8,.lf (.own 2)),(10,.lf (.sl (.int .i64) x10)),(11,.lf (.own 3)),(36,.lf (.sl (.sl 2 (.int .i64)) x36)),(37,.lf (.int .i64 x37)),(38,.lf (.int .i64 x38)),(43,.lf (.own 1)),(44,.lf (.int .i64 x44)),(45,.lf (.int .i64 x45))],ob:=[(0,.box 102 true [.int .i64 b0_0,.sl (.sl 1000002 (.int .i64)) b0_1]),(1,.row 3 true (.int .i64) r1),(2,.row 25 true (.sl 2 (.int .i64)) r2),(3,.row 2 true (.int .i64) r3)],nx:=4 }
theorem Zj.f_eq (a0_0:Int) (l0_1:List (List Int)) (a1_0:Int) (l1_1:List (List Int)):Zj.f a0_0 l0_1 a1_0 l1_1=Zj.l0 l0_1 (l0_1.length:Int) 0 a0_0 l0_1 a1_0 l1_1 ([]:List Int):=by kernel_rfl
theorem Zj.l0_eq (x19:List (List Int)) (x20:Int) (x21:Int) (b0_0:Int) (b0_1:List (List Int)) (b1_0:Int) (b1_1:List (List Int)) (r2:List Int):Zj.l0 x19 x20 x21 b0_0 b0_1 b1_0 b1_1 r2=if x21 < x20 then(if 0≤x21 then(if x21 < (x19.length:Int)then(if(row x19 x21).length=0 then(Zj.l0 x19 x20 (wrapI (x21+1)) b0_0 b0_1 b1_0 b1_1 r2)else(if 0 < (row x19 x21).length then(if r2.length+([x21]:List Int).length≤17592186044416 then(Zj.l0 x19 x20 (wrapI (x21+1)) b0_0 b0_1 b1_0 b1_1 (r2++([x21]:List Int)))else none)else none))else none)else none)else((Zm.f b0_0 b0_1 b1_0 b1_1).bind fun t36=>Zj.l1 t36 (t36.length:Int) 0 b0_0 b0_1 r2 ([]:List (List Int))):=(Zp _ _ _ _).trans (by kernel_rfl)
theorem Zj.l1_eq (x36:List (List Int)) (x37:Int) (x38:Int) (b0_0:Int) (b0_1:List (List Int)) (r1:List Int) (r2:List (List Int)):Zj.l1 x36 x37 x38 b0_0 b0_1 r1 r2=if x38 < x37 then(if 0≤x38 then(if x38 < (x36.length:Int)then(Zj.l2 (row x36 x38) x36 x37 x38 (r1.length:Int) 0 b0_0 b0_1 r1 r2 ([]:List Int))else none)else none)else((Za.f b0_0 r2 (r1.length:Int)).bind fun t69=>(Zt.f t69.1 (fun z0=>(ZO.f z0).map fun z=>z)).bind fun t70=>(Zag.f t70).bind fun t72=>some t72):=(Zp _ _ _ _).trans (by kernel_rfl)
theorem Zj.l2_eq (x10:List Int) (x36:List (List Int)) (x37:Int) (x38:Int) (x44:Int) (x45:Int) (b0_0:Int) (b0_1:List (List Int)) (r1:List Int) (r2:List (List Int)) (r3:List Int):Zj.l2 x10 x36 x37 x38 x44 x45 b0_0 b0_1 r1 r2 r3=if x45 < x44 then(if 0≤x45 then(if x45 < (r1.length:Int)then(if 0≤x45 then(if x45 < (r1.length:Int)then(if 0≤rd r1 x45 then(if rd r1 x45 < (x10.length:Int)then(if r3.length+([rd x10 (rd r1 x45)]:List Int).length≤17592186044416 then(Zj.l2 x10 x36 x37 x38 x44 (wrapI (x45+1)) b0_0 b0_1 r1 r2 (r3++([rd x10 (rd r1 x45)]:List Int)))else none)else none)else none)else none)else none)else none)else none)else(if r2.length+([r3]:List (List Int)).length≤5864062014805 then(Zj.l1 x36 x37 (wrapI (x38+1)) b0_0 b0_1 r1 (r2++([r3]:List (List Int))))else none):=(Zp _ _ _ _).trans (by kernel_rfl)
noncomputable def Zj.con:Con:=⟨Zj.fn.ins,Zj.fn.outs,(List Int),fun x=>Zj.f x.1 x.2.1 x.2.2.1 x.2.2.2.1,fun r=>((r,()),(()))⟩
theorem Zj.valid:Valid Tryz.prog 82 Zj.con:=fnV Zj.fn Zj.E Zj.enc ⟨ttOk,(ZF Zm.valid (ZF Za.valid (ZF Zt.valid (ZF ZO.valid (ZF Zag.valid Zay)))))⟩ Tryz.func82
end Go.Proofs.YtdamfbighdkcbaaGreat.P
namespace Go.Proofs.YtdamfbighdkcbaaGreat.P
open Go Go.RowKit Go.Proofs.YtdamfbighdkcbaaGreat.D
noncomputable def Zai.E:Env:={ tt:=TT,con:=[(50,ZaR.con),(54,Z8.con),(82,Zj.con)],frz:=[],rows:=[],live:=[],n:=16,pin:=0,nils:=[] }
noncomputable def Zai.fn:D.Fn:={ body:=Tryz.f46.body.getD .skip,res:=Tryz.f46.results.toList,ins:=[.agg [.v (.sl 25 (.sl 2 (.int .i64)))],.agg [.v (.int .i64),.v (.sl 2 (.int .i64))],.one (.v (.int .i64))],outs:=[.one (.own 2 true (.int .i64))] }
def Zai.enc (y:lsd (flats Zai.fn.outs)×lsd (ios Zai.fn.ins)):(List Int):=y.1.1
noncomputable def Zai.f (l0_0:List (List Int)) (a1_0:Int) (l1_1:List Int) (a2:Int):Option (List Int):=denF Zai.E Zai.fn Zai.enc (l0_0,a1_0,l1_1,a2,())
theorem Zai.f_eq (l0_0:List (List Int)) (a1_0:Int) (l1_1:List Int) (a2:Int):Zai.f l0_0 a1_0 l1_1 a2=(ZaR.f l0_0 a1_0 l1_1 a2).bind fun t10=>(Z8.f l0_0 a1_0 l1_1 a2).bind fun t14=>(Zj.f t10.1 t10.2 t14.1 t14.2).bind fun t15=>some t15:=by kernel_rfl
noncomputable def Zai.con:Con:=⟨Zai.fn.ins,Zai.fn.outs,(List Int),fun x=>Zai.f x.1 x.2.1 x.2.2.1 x.2.2.2.1,fun r=>((r,()),(()))⟩
theorem Zai.valid:Valid Tryz.prog 46 Zai.con:=fnV Zai.fn Zai.E Zai.enc ⟨ttOk,(ZF ZaR.valid (ZF Z8.valid (ZF Zj.valid Zay)))⟩ Tryz.func46
end Go.Proofs.YtdamfbighdkcbaaGreat.P
namespace Go.Proofs.YtdamfbighdkcbaaGreat.P
open Go Go.RowKit Go.Proofs.YtdamfbighdkcbaaGreat.D
noncomputable def Zaf.E:Env:={ tt:=TT,con:=[(45,ZaL.con),(46,Zai.con)],frz:=[],rows:=[],live:=[],n:=20,pin:=0,nils:=[] }
noncomputable def Zaf.fn:D.Fn:={ body:=Tryz.f11.body.getD .skip,res:=Tryz.f11.results.toList,ins:=[.agg [.v (.sl 25 (.sl 2 (.int .i64)))],.agg [.v (.int .i64),.v (.sl 2 (.int .i64))],.one (.v (.int .i64))],outs:=[.one (.own 2 true (.int .i64)),.one (.v (.int .i64))] }
def Zaf.enc (y:lsd (flats Zaf.fn.outs)×lsd (ios Zaf.fn.ins)):(List Int)×Int:=(y.1.1,y.1.2.1)
noncomputable def Zaf.f (l0_0:List (List Int)) (a1_0:Int) (l1_1:List Int) (a2:Int):Option ((List Int)×Int):=denF Zaf.E Zaf.fn Zaf.enc (l0_0,a1_0,l1_1,a2,())
theorem Zaf.f_eq (l0_0:List (List Int)) (a1_0:Int) (l1_1:List Int) (a2:Int):Zaf.f l0_0 a1_0 l1_1 a2=(ZaL.f l0_0 a1_0 l1_1 a2).bind fun t12=>if t12=0 then((Zai.f l0_0 a1_0 l1_1 a2).bind fun t19=>some (t19,0))else(some (([]:List Int),t12)):=by kernel_rfl
noncomputable def Zaf.con:Con:=⟨Zaf.fn.ins,Zaf.fn.outs,(List Int)×Int,fun x=>Zaf.f x.1 x.2.1 x.2.2.1 x.2.2.2.1,fun r=>((r.1,r.2,()),(()))⟩
theorem Zaf.valid:Valid Tryz.prog 11 Zaf.con:=fnV Zaf.fn Zaf.E Zaf.enc ⟨ttOk,(ZF ZaL.valid (ZF Zai.valid Zay))⟩ Tryz.func11
end Go.Proofs.YtdamfbighdkcbaaGreat.P
namespace Go.Proofs.YtdamfbighdkcbaaGreat.P
open Go Go.RowKit Go.Proofs.YtdamfbighdkcbaaGreat.D
noncomputable def ZU.E:Env:={ tt:=TT,con:=[],frz:=[],rows:=[],live:=[(4,[0,1,5])],n:=26,pin:=0,nils:=[] }
noncomputable def ZU.fn:D.Fn:={ body:=Tryz.f12.body.getD .skip,res:=Tryz.f12.results.toList,ins:=[.one (.v (.sl 2 (.int .i64))),.one (.v (.sl 2 (.int .i64)))],outs:=[.one (.v .bool)] }
def ZU.enc (y:lsd (flats ZU.fn.outs)×lsd (ios ZU.fn.ins)):Bool:=y.1.1
noncomputable def ZU.f (l0:List Int) (l1:List Int):Option Bool:=denF ZU.E ZU.fn ZU.enc (l0,l1,())
noncomputable def ZU.l0 (x0:List Int) (x1:List Int) (x5:Int):Option Bool:=denAt ZU.E ZU.fn ZU.enc [1,1,0,1,0] { fr:=[(0,.lf (.sl (.int .i64) x0)),(1,.lf (.sl (.int .i64) x1)),(5,.lf (.int .i64 x5))],ob:=[],nx:=0 }
theorem ZU.f_eq (l0:List Int) (l1:List Int):ZU.f l0 l1=if(l0.length:Int)=(l1.length:Int)then(ZU.l0 l0 l1 0)else(some false):=by kernel_rfl
theorem ZU.l0_eq (x0:List Int) (x1:List Int) (x5:Int):ZU.l0 x0 x1 x5=if x5 < (x0.length:Int)then(if 0≤x5 then(if x5 < (x0.length:Int)then(if 0≤x5 then(if x5 < (x1.length:Int)then(if(rd x0 x5)=(rd x1 x5)then(ZU.l0 x0 x1 (wrapI (x5+1)))else(some false))else none)else none)else none)else none)else(some true):=(Zp _ _ _ _).trans (by kernel_rfl)
noncomputable def ZU.con:Con:=⟨ZU.fn.ins,ZU.fn.outs,Bool,fun x=>ZU.f x.1 x.2.1,fun r=>((r,()),(()))⟩
theorem ZU.valid:Valid Tryz.prog 12 ZU.con:=fnV ZU.fn ZU.E ZU.enc ⟨ttOk,Zay⟩ Tryz.func12
end Go.Proofs.YtdamfbighdkcbaaGreat.P
namespace Go.Proofs.YtdamfbighdkcbaaGreat.P
open Go Go.RowKit Go.Proofs.YtdamfbighdkcbaaGreat.D
noncomputable def Zaa.E:Env:={ tt:=TT,con:=[(12,ZU.con)],frz:=[],rows:=[],live:=[(4,[0,1,5])],n:=27,pin:=0,nils:=[] }
noncomputable def Zaa.fn:D.Fn:={ body:=Tryz.f47.body.getD .skip,res:=Tryz.f47.results.toList,ins:=[.one (.v (.sl 25 (.sl 2 (.int .i64)))),.one (.v (.sl 25 (.sl 2 (.int .i64))))],outs:=[.one (.v .bool)] }
def Zaa.enc (y:lsd (flats Zaa.fn.outs)×lsd (ios Zaa.fn.ins)):Bool:=y.1.1
noncomputable def Zaa.f (l0:List (List Int)) (l1:List (List Int)):Option Bool:=denF Zaa.E Zaa.fn Zaa.enc (l0,l1,())
noncomputable def Zaa.l0 (x0:List (List Int)) (x1:List (List Int)) (x5:Int):Option Bool:=denAt Zaa.E Zaa.fn Zaa.enc [1,1,0,1,0] { fr:=[(0,.lf (.sl (.sl 2 (.int .i64)) x0)),(1,.lf (.sl (.sl 2 (.int .i64)) x1)),(5,.lf (.int .i64 x5))],ob:=[],nx:=0 }
theorem Zaa.f_eq (l0:List (List Int)) (l1:List (List Int)):Zaa.f l0 l1=if(l0.length:Int)=(l1.length:Int)then(Zaa.l0 l0 l1 0)else(some false):=by kernel_rfl
theorem Zaa.l0_eq (x0:List (List Int)) (x1:List (List Int)) (x5:Int):Zaa.l0 x0 x1 x5=if x5 < (x0.length:Int)then(if 0≤x5 then(if x5 < (x0.length:Int)then(if 0≤x5 then(if x5 < (x1.length:Int)then((ZU.f (row x0 x5) (row x1 x5)).bind fun t25=>if t25=true then(Zaa.l0 x0 x1 (wrapI (x5+1)))else(some false))else none)else none)else none)else none)else(some true):=(Zp _ _ _ _).trans (by kernel_rfl)
noncomputable def Zaa.con:Con:=⟨Zaa.fn.ins,Zaa.fn.outs,Bool,fun x=>Zaa.f x.1 x.2.1,fun r=>((r,()),(()))⟩
theorem Zaa.valid:Valid Tryz.prog 47 Zaa.con:=fnV Zaa.fn Zaa.E Zaa.enc ⟨ttOk,(ZF ZU.valid Zay)⟩ Tryz.func47
end Go.Proofs.YtdamfbighdkcbaaGreat.P
namespace Go.Proofs.YtdamfbighdkcbaaGreat.P
open Go Go.RowKit Go.Proofs.YtdamfbighdkcbaaGreat.D
noncomputable def ZaW.E:Env:={ tt:=TT,con:=[(47,Zaa.con)],frz:=[],rows:=[],live:=[],n:=11,pin:=0,nils:=[] }
noncomputable def ZaW.fn:D.Fn:={ body:=Tryz.f13.body.getD .skip,res:=Tryz.f13.results.toList,ins:=[.agg [.v (.sl 25 (.sl 2 (.int .i64)))],.agg [.v (.sl 25 (.sl 2 (.int .i64)))]],outs:=[.one (.v .bool)] }
def ZaW.enc (y:lsd (flats ZaW.fn.outs)×lsd (ios ZaW.fn.ins)):Bool:=y.1.1
noncomputable def ZaW.f (l0_0:List (List Int)) (l1_0:List (List Int)):Option Bool:=denF ZaW.E ZaW.fn ZaW.enc (l0_0,l1_0,())
theorem ZaW.f_eq (l0_0:List (List Int)) (l1_0:List (List Int)):ZaW.f l0_0 l1_0=(Zaa.f l0_0 l1_0).bind fun t9=>if t9=true then(some true)else(some false):=by kernel_rfl
noncomputable def ZaW.con:Con:=⟨ZaW.fn.ins,ZaW.fn.outs,Bool,fun x=>ZaW.f x.1 x.2.1,fun r=>((r,()),(()))⟩
theorem ZaW.valid:Valid Tryz.prog 13 ZaW.con:=fnV ZaW.fn ZaW.E ZaW.enc ⟨ttOk,(ZF Zaa.valid Zay)⟩ Tryz.func13
end Go.Proofs.YtdamfbighdkcbaaGreat.P
namespace Go.Proofs.YtdamfbighdkcbaaGreat.P
open Go Go.RowKit Go.Proofs.YtdamfbighdkcbaaGreat.D
noncomputable def ZaM.E:Env:={ tt:=TT,con:=[(12,ZU.con)],frz:=[],rows:=[],live:=[],n:=16,pin:=0,nils:=[] }
noncomputable def ZaM.fn:D.Fn:={ body:=Tryz.f14.body.getD .skip,res:=Tryz.f14.results.toList,ins:=[.agg [.v (.int .i64),.v (.sl 2 (.int .i64))],.agg [.v (.int .i64),.v (.sl 2 (.int .i64))]],outs:=[.one (.v .bool)] }
def ZaM.enc (y:lsd (flats ZaM.fn.outs)×lsd (ios ZaM.fn.ins)):Bool:=y.1.1
noncomputable def ZaM.f (a0_0:Int) (l0_1:List Int) (a1_0:Int) (l1_1:List Int):Option Bool:=denF ZaM.E ZaM.fn ZaM.enc (a0_0,l0_1,a1_0,l1_1,())
theorem ZaM.f_eq (a0_0:Int) (l0_1:List Int) (a1_0:Int) (l1_1:List Int):ZaM.f a0_0 l0_1 a1_0 l1_1=if a0_0=a1_0 then((ZU.f l0_1 l1_1).bind fun t14=>if t14=true then(some true)else(some false))else(some false):=by kernel_rfl
noncomputable def ZaM.con:Con:=⟨ZaM.fn.ins,ZaM.fn.outs,Bool,fun x=>ZaM.f x.1 x.2.1 x.2.2.1 x.2.2.2.1,fun r=>((r,()),(()))⟩
theorem ZaM.valid:Valid Tryz.prog 14 ZaM.con:=fnV ZaM.fn ZaM.E ZaM.enc ⟨ttOk,(ZF ZU.valid Zay)⟩ Tryz.func14
end Go.Proofs.YtdamfbighdkcbaaGreat.P
namespace Go.Proofs.YtdamfbighdkcbaaGreat.P
open Go Go.RowKit Go.Proofs.YtdamfbighdkcbaaGreat.D
noncomputable def ZN.E:Env:={ tt:=TT,con:=[],frz:=[],rows:=[],live:=[(2,[0,1,5])],n:=19,pin:=1,nils:=[] }
noncomputable def ZN.fn:D.Fn:={ body:=Tryz.f17.body.getD .skip,res:=Tryz.f17.results.toList,ins:=[.one (.own 2 true (.int .i64)),.one (.v (.int .i64))],outs:=[.one (.v (.int .i64))] }
def ZN.enc (y:lsd (flats ZN.fn.outs)×lsd (ios ZN.fn.ins)):Int×(List Int):=(y.1.1,y.2.1)
noncomputable def ZN.f (l0:List Int) (a1:Int):Option (Int×(List Int)):=denF ZN.E ZN.fn ZN.enc (l0,a1,())
noncomputable def ZN.l0 (x1:Int) (x5:Int) (r0:List Int):Option (Int×(List Int)):=denAt ZN.E ZN.fn ZN.enc [1,0,1,0] { fr:=[(0,.lf (.own 0)),(1,.lf (.int .i64 x1)),(5,.lf (.int .i64 x5))],ob:=[(0,.row 2 true (.int .i64) r0)],nx:=1 }
theorem ZN.f_eq (l0:List Int) (a1:Int):ZN.f l0 a1=ZN.l0 a1 0 l0:=by kernel_rfl
theorem ZN.l0_eq (x1:Int) (x5:Int) (r0:List Int):ZN.l0 x1 x5 r0=if x5 < (r0.length:Int)then(if 0≤x5 then(if x5 < (r0.length:Int)then(if 0≤x5 then(if x5 < (r0.length:Int)then(ZN.l0 (wrapI (x1+1)) (wrapI (x5+1)) (r0.set (x5:Int).toNat x1))else none)else none)else none)else none)else(some (x1,r0)):=(Zp _ _ _ _).trans (by kernel_rfl)
noncomputable def ZN.con:Con:=⟨ZN.fn.ins,ZN.fn.outs,Int×(List Int),fun x=>ZN.f x.1 x.2.1,fun r=>((r.1,()),(r.2,()))⟩
theorem ZN.valid:Valid Tryz.prog 17 ZN.con:=fnV ZN.fn ZN.E ZN.enc ⟨ttOk,Zay⟩ Tryz.func17
end Go.Proofs.YtdamfbighdkcbaaGreat.P
namespace Go.Proofs.YtdamfbighdkcbaaGreat.P
open Go Go.RowKit Go.Proofs.YtdamfbighdkcbaaGreat.D
noncomputable def ZT.E:Env:={ tt:=TT,con:=[(17,ZN.con)],frz:=[],rows:=[],live:=[(2,[0,1,5])],n:=19,pin:=1,nils:=[] }
noncomputable def ZT.fn:D.Fn:={ body:=Tryz.f48.body.getD .skip,res:=Tryz.f48.results.toList,ins:=[.one (.own 25 true (.sl 2 (.int .i64))),.one (.v (.int .i64))],outs:=[.one (.v (.int .i64))] }
def ZT.enc (y:lsd (flats ZT.fn.outs)×lsd (ios ZT.fn.ins)):Int×(List (List Int)):=(y.1.1,y.2.1)
noncomputable def ZT.f (l0:List (List Int)) (a1:Int):Option (Int×(List (List Int))):=denF ZT.E ZT.fn ZT.enc (l0,a1,())
noncomputable def ZT.l0 (x1:Int) (x5:Int) (r0:List (List Int)):Option (Int×(List (List Int))):=denAt ZT.E ZT.fn ZT.enc [1,0,1,0] { fr:=[(0,.lf (.own 0)),(1,.lf (.int .i64 x1)),(5,.lf (.int .i64 x5))],ob:=[(0,.row 25 true (.sl 2 (.int .i64)) r0)],nx:=1 }
theorem ZT.f_eq (l0:List (List Int)) (a1:Int):ZT.f l0 a1=ZT.l0 a1 0 l0:=by kernel_rfl
theorem ZT.l0_eq (x1:Int) (x5:Int) (r0:List (List Int)):ZT.l0 x1 x5 r0=if x5 < (r0.length:Int)then(if 0≤x5 then(if x5 < (r0.length:Int)then(if 0≤x5 then(if x5 < (r0.length:Int)then((ZN.f (row r0 x5) x1).bind fun t17=>ZT.l0 t17.1 (wrapI (x5+1)) (r0.set (x5:Int).toNat t17.2))else none)else none)else none)else none)else(some (x1,r0)):=(Zp _ _ _ _).trans (by kernel_rfl)
noncomputable def ZT.con:Con:=⟨ZT.fn.ins,ZT.fn.outs,Int×(List (List Int)),fun x=>ZT.f x.1 x.2.1,fun r=>((r.1,()),(r.2,()))⟩
theorem ZT.valid:Valid Tryz.prog 48 ZT.con:=fnV ZT.fn ZT.E ZT.enc ⟨ttOk,(ZF ZN.valid Zay)⟩ Tryz.func48
end Go.Proofs.YtdamfbighdkcbaaGreat.P
namespace Go.Proofs.YtdamfbighdkcbaaGreat.P
open Go Go.RowKit Go.Proofs.YtdamfbighdkcbaaGreat.D
noncomputable def ZaI.E:Env:={ tt:=TT,con:=[(48,ZT.con)],frz:=[],rows:=[],live:=[],n:=10,pin:=1,nils:=[] }
noncomputable def ZaI.fn:D.Fn:={ body:=Tryz.f15.body.getD .skip,res:=Tryz.f15.results.toList,ins:=[.agg [.own 25 true (.sl 2 (.int .i64))],.one (.v (.int .i64))],outs:=[.one (.v (.int .i64))] }
def ZaI.enc (y:lsd (flats ZaI.fn.outs)×lsd (ios ZaI.fn.ins)):Int×(List (List Int)):=(y.1.1,y.2.1)
noncomputable def ZaI.f (l0_0:List (List Int)) (a1:Int):Option (Int×(List (List Int))):=denF ZaI.E ZaI.fn ZaI.enc (l0_0,a1,())
theorem ZaI.f_eq (l0_0:List (List Int)) (a1:Int):ZaI.f l0_0 a1=(ZT.f l0_0 a1).bind fun t8=>some (t8.1,t8.2):=by kernel_rfl
noncomputable def ZaI.con:Con:=⟨ZaI.fn.ins,ZaI.fn.outs,Int×(List (List Int)),fun x=>ZaI.f x.1 x.2.1,fun r=>((r.1,()),(r.2,()))⟩
theorem ZaI.valid:Valid Tryz.prog 15 ZaI.con:=fnV ZaI.fn ZaI.E ZaI.enc ⟨ttOk,(ZF ZT.valid Zay)⟩ Tryz.func15
end Go.Proofs.YtdamfbighdkcbaaGreat.P
namespace Go.Proofs.YtdamfbighdkcbaaGreat.P
open Go Go.RowKit Go.Proofs.YtdamfbighdkcbaaGreat.D
noncomputable def ZaB.E:Env:={ tt:=TT,con:=[(17,ZN.con)],frz:=[],rows:=[],live:=[],n:=10,pin:=1,nils:=[] }
noncomputable def ZaB.fn:D.Fn:={ body:=Tryz.f16.body.getD .skip,res:=Tryz.f16.results.toList,ins:=[.agg [.v (.int .i64),.own 2 true (.int .i64)],.one (.v (.int .i64))],outs:=[.one (.v (.int .i64))] }
def ZaB.enc (y:lsd (flats ZaB.fn.outs)×lsd (ios ZaB.fn.ins)):Int×(List Int):=(y.1.1,y.2.1)
noncomputable def ZaB.f (a0_0:Int) (l0_1:List Int) (a1:Int):Option (Int×(List Int)):=denF ZaB.E ZaB.fn ZaB.enc (a0_0,l0_1,a1,())
theorem ZaB.f_eq (a0_0:Int) (l0_1:List Int) (a1:Int):ZaB.f a0_0 l0_1 a1=(ZN.f l0_1 a1).bind fun t8=>some (t8.1,t8.2):=by kernel_rfl
noncomputable def ZaB.con:Con:=⟨ZaB.fn.ins,ZaB.fn.outs,Int×(List Int),fun x=>ZaB.f x.1 x.2.1 x.2.2.1,fun r=>((r.1,()),(r.2,()))⟩
theorem ZaB.valid:Valid Tryz.prog 16 ZaB.con:=fnV ZaB.fn ZaB.E ZaB.enc ⟨ttOk,(ZF ZN.valid Zay)⟩ Tryz.func16
end Go.Proofs.YtdamfbighdkcbaaGreat.P
namespace Go.Proofs.YtdamfbighdkcbaaGreat.P
open Go Go.RowKit Go.Proofs.YtdamfbighdkcbaaGreat.D
noncomputable def ZX.E:Env:={ tt:=TT,con:=[],frz:=[],rows:=[],live:=[(2,[0,1,5])],n:=21,pin:=0,nils:=[] }
noncomputable def ZX.fn:D.Fn:={ body:=Tryz.f18.body.getD .skip,res:=Tryz.f18.results.toList,ins:=[.one (.v (.sl 2 (.int .i64))),.one (.v (.int .i64))],outs:=[.one (.v (.int .i64))] }
def ZX.enc (y:lsd (flats ZX.fn.outs)×lsd (ios ZX.fn.ins)):Int:=y.1.1
noncomputable def ZX.f (l0:List Int) (a1:Int):Option Int:=denF ZX.E ZX.fn ZX.enc (l0,a1,())
noncomputable def ZX.l0 (x0:List Int) (x1:Int) (x5:Int):Option Int:=denAt ZX.E ZX.fn ZX.enc [1,0,1,0] { fr:=[(0,.lf (.sl (.int .i64) x0)),(1,.lf (.int .i64 x1)),(5,.lf (.int .i64 x5))],ob:=[],nx:=0 }
theorem ZX.f_eq (l0:List Int) (a1:Int):ZX.f l0 a1=ZX.l0 l0 a1 0:=by kernel_rfl
theorem ZX.l0_eq (x0:List Int) (x1:Int) (x5:Int):ZX.l0 x0 x1 x5=if x5 < (x0.length:Int)then(if 0≤x5 then(if x5 < (x0.length:Int)then(if(rd x0 x5)=x1 then(ZX.l0 x0 (wrapI (x1+1)) (wrapI (x5+1)))else(some (-1)))else none)else none)else(some x1):=(Zp _ _ _ _).trans (by kernel_rfl)
noncomputable def ZX.con:Con:=⟨ZX.fn.ins,ZX.fn.outs,Int,fun x=>ZX.f x.1 x.2.1,fun r=>((r,()),(()))⟩
theorem ZX.valid:Valid Tryz.prog 18 ZX.con:=fnV ZX.fn ZX.E ZX.enc ⟨ttOk,Zay⟩ Tryz.func18
end Go.Proofs.YtdamfbighdkcbaaGreat.P
namespace Go.Proofs.YtdamfbighdkcbaaGreat.P
open Go Go.RowKit Go.Proofs.YtdamfbighdkcbaaGreat.D
noncomputable def ZE.E:Env:={ tt:=TT,con:=[(6,ZaZ.con),(7,ZaU.con),(9,ZaQ.con),(10,ZaF.con),(8,Zak.con),(11,Zaf.con),(12,ZU.con),(13,ZaW.con),(14,ZaM.con),(15,ZaI.con),(16,ZaB.con),(17,ZN.con),(18,ZX.con)],frz:=[],rows:=[],live:=[],n:=124,pin:=0,nils:=[] }
noncomputable def ZE.fn:D.Fn:={ body:=Tryz.f3.body.getD .skip,res:=Tryz.f3.results.toList,ins:=[.agg [.v (.sl 25 (.sl 2 (.int .i64)))],.agg [.v (.int .i64),.v (.sl 2 (.int .i64))],.one (.v (.int .i64))],outs:=[.one (.v .bool)] }
def ZE.enc (y:lsd (flats ZE.fn.outs)×lsd (ios ZE.fn.ins)):Bool:=y.1.1
noncomputable def ZE.f (l0_0:List (List Int)) (a1_0:Int) (l1_1:List Int) (a2:Int):Option Bool:=denF ZE.E ZE.fn ZE.enc (l0_0,a1_0,l1_1,a2,())
theorem ZE.f_eq (l0_0:List (List Int)) (a1_0:Int) (l1_1:List Int) (a2:Int):ZE.f l0_0 a1_0 l1_1 a2=(ZaZ.f l0_0 1048576).bind fun t21=>if t21 < 0 then(some true)else((ZaU.f a1_0 l1_1 t21).bind fun t26=>if t26 < 0 then(some true)else((ZaQ.f l0_0).bind fun t31=>(ZaF.f a1_0 l1_1).bind fun t33=>(Zak.f t31 t33.1 t33.2 a2).bind fun t35=>(ZaQ.f l0_0).bind fun t39=>(ZaF.f a1_0 l1_1).bind fun t41=>(Zaf.f t39 t41.1 t41.2 a2).bind fun t46=>(ZU.f t46.1 t35.1).bind fun t51=>if t51=true then(if t46.2=t35.2 then((ZaQ.f l0_0).bind fun t60=>(ZaW.f t39 t60).bind fun t61=>if t61=true then((ZaF.f a1_0 l1_1).bind fun t65=>(ZaM.f t41.1 t41.2 t65.1 t65.2).bind fun t66=>if t66=true then((ZaI.f t39 1).bind fun t70=>(ZaB.f t41.1 t41.2 t70.1).bind fun t73=>if t73.1 < 0 then(some false)else((ZU.f t46.1 t35.1).bind fun t79=>if t79=true then(if t46.2=t35.2 then((ZN.f t46.1 1).bind fun t89=>(ZX.f t89.2 1).bind fun t92=>if t92 < 0 then(some false)else(if t92=t89.1 then((ZaQ.f l0_0).bind fun t100=>(ZaF.f a1_0 l1_1).bind fun t102=>(Zaf.f t100 t102.1 t102.2 a2).bind fun t104=>(ZU.f t104.1 t35.1).bind fun t109=>if t109=true then(if t104.2=t35.2 then((ZX.f t89.2 1).bind fun t118=>if t118 < 0 then(some false)else(if t118=t89.1 then(some true)else(some false)))else(some false))else(some false))else(some false)))else(some false))else(some false)))else(some false))else(some false))else(some false))else(some false))):=by kernel_rfl
noncomputable def ZE.con:Con:=⟨ZE.fn.ins,ZE.fn.outs,Bool,fun x=>ZE.f x.1 x.2.1 x.2.2.1 x.2.2.2.1,fun r=>((r,()),(()))⟩
theorem ZE.valid:Valid Tryz.prog 3 ZE.con:=fnV ZE.fn ZE.E ZE.enc ⟨ttOk,(ZF ZaZ.valid (ZF ZaU.valid (ZF ZaQ.valid (ZF ZaF.valid (ZF Zak.valid (ZF Zaf.valid (ZF ZU.valid (ZF ZaW.valid (ZF ZaM.valid (ZF ZaI.valid (ZF ZaB.valid (ZF ZN.valid (ZF ZX.valid Zay)))))))))))))⟩ Tryz.func3
end Go.Proofs.YtdamfbighdkcbaaGreat.P
namespace Go.Proofs.YtdamfbighdkcbaaGreat.V
open Go Go.RowKit Go.Proofs.YtdamfbighdkcbaaGreat.D
theorem w64 {x:Int} (h0 : -9223372036854775808≤x) (h1:x≤9223372036854775807):wrapI x=x:=by unfold wrapI;rw[Zdg];unfold wrap64;omega
theorem wn {j:Nat} (h:j < 4611686018427387904):wrapI ((j:Int)+1)=((j+1:Nat):Int):=by rw[w64 (by omega) (by omega)];omega
theorem Zl {α : Type} {p:Prop} {inst:Decidable p} {a b r : α} (h:p) (k:a=r):(if p then a else b)=r:=by rw[if_pos h];exact k
theorem Zk {α : Type} {p:Prop} {inst:Decidable p} {a b r : α} (h:¬ p) (k:b=r):(if p then a else b)=r:=by rw[if_neg h];exact k
theorem Ze {α β : Type} {c:Option α} {f : α → Option β} {a : α} {r:Option β} (h:c=some a) (k:f a=r):c.bind f=r:=by rw[h];exact k
theorem ZbS:maxLen≤9223372036854775807:=by unfold maxLen;omega
theorem ZkV {n:Nat} (h:n≤9223372036854775807):n≤maxLen:=by unfold maxLen;omega
noncomputable def ite_ {α : Type} (p:Prop) (a b : α) : α := @ite α p (Classical.propDecidable p) a b
theorem Zcb {α : Type} {p:Prop} (h:p) (a b : α):ite_ p a b=a:=by unfold ite_;simp[h]
theorem Zca {α : Type} {p:Prop} (h:¬ p) (a b : α):ite_ p a b=b:=by unfold ite_;simp[h]
noncomputable def B (p:Prop):Bool := @decide p (Classical.propDecidable p)
theorem B_pos {p:Prop} (h:p):B p=true:=by unfold B;simp[h]
theorem B_neg {p:Prop} (h:¬ p):B p=false:=by unfold B;simp[h]
theorem B_not {p:Prop} (h:¬ p):¬ (B p=true):=by rw[B_neg h];decide
theorem B_iff {p:Prop}:B p=true↔p:=by unfold B;simp
theorem ZbQ {p q:Prop} (h:p↔q):B p=B q:=by rw[show p=q from propext h]
theorem Zf8 (p:Prop) {inst:Decidable p}:decide p=B p:=by by_cases h:p <;> simp[h,B]
theorem ZnE:B True=true:=B_pos trivial
theorem scan {R:Type} (n:Nat) (L:Int→R) (P:Int→Prop) (bad:R)
  (hs:∀i:Int,0≤i→i < n→(∀j:Int,0≤j→j < i→P j)→(P i→L i=L (i+1))∧(¬ P i→L i=bad)) :
  ((∀j:Int,0≤j→j < n→P j)∧L 0=L n)∨(∃m:Int,0≤m∧m < n∧(∀j:Int,0≤j→j < m→P j)∧¬ P m∧L 0=L m∧L 0=bad):=by
 suffices H:∀d m:Nat,m+d=n→(∀j:Int,0≤j→j < m→P j) →
   ((∀j:Int,0≤j→j < n→P j)∧L m=L n)∨(∃i:Int,0≤i∧i < n∧(∀j:Int,0≤j→j < i→P j)∧¬ P i∧L m=L i∧L m=bad)by
  simpa using H n 0 (by omega) (fun j h0 h1=>by omega)
 intro d
 induction d with
 | zero =>
  intro m hm hp
  have:(m:Int)=n:=by omega
  rw[this]at hp ⊢
  exact .inl ⟨hp,rfl⟩
 | succ d ih =>
  intro m hm hp
  obtain⟨h1,h2⟩:=hs m (by omega) (by omega) hp
  by_cases h:P m
  ·
   have hp' : ∀j:Int,0≤j→j < ((m+1:Nat):Int)→P j:=fun j h0 hj=>by
    by_cases e:j=m
    ·
     rw[e];exact h
    ·
     exact hp j h0 (by omega)
   have:=ih (m+1) (by omega) hp'
   rwa[Int.natCast_add,Int.natCast_one,←h1 h]at this
  ·
   exact .inr ⟨m,by omega,by omega,hp,h,rfl,h2 h⟩
theorem scanB (n:Nat) (L:Int→Option Bool) (P:Int→Prop) (Q:Prop)
  (hs:∀i:Int,0≤i→i < n→(∀j:Int,0≤j→j < i→P j)→(P i→L i=L (i+1))∧(¬ P i→L i=some false))
  (he:(∀j:Int,0≤j→j < n→P j)→L n=some (B Q)):L 0=some (B ((∀j:Int,0≤j→j < n→P j)∧Q)):=by
 rcases scan n L P (some false) hs with ⟨h1,h2⟩|⟨j,h0,h1,_,h2,_,h3⟩
 ·
  rw[ZbQ (show((∀j:Int,0≤j→j < n→P j)∧Q)↔Q from⟨fun h=>h.2,fun h=>⟨h1,h⟩⟩),h2]
  exact he h1
 ·
  rw[B_neg fun h=>h2 (h.1 j h0 h1)]
  exact h3
theorem scanT (n:Nat) (L:Int→Option Bool) (P:Int→Prop)
  (hs:∀i:Int,0≤i→i < n→(∀j:Int,0≤j→j < i→P j)→(P i→L i=L (i+1))∧(¬ P i→L i=some false))
  (he:(∀j:Int,0≤j→j < n→P j)→L n=some true):L 0=some (B (∀j:Int,0≤j→j < n→P j)):=by
 have:=scanB n L P True hs (fun h=>by rw[ZnE];exact he h)
 rwa[ZbQ (show((∀j:Int,0≤j→j < n→P j)∧True)↔_ from⟨fun h=>h.1,fun h=>⟨h,trivial⟩⟩)]at this
theorem scanI {R:Type} (n:Nat) (L:Int→R) (P:Int→Prop) (bad go:R)
  (hs:∀i:Int,0≤i→i < n→(∀j:Int,0≤j→j < i→P j)→(P i→L i=L (i+1))∧(¬ P i→L i=bad)) (he:(∀j:Int,0≤j→j < n→P j)→L n=go) :
  ((∀j:Int,0≤j→j < n→P j)→L 0=go)∧(¬ (∀j:Int,0≤j→j < n→P j)→L 0=bad):=by
 rcases scan n L P bad hs with ⟨h1,h2⟩|⟨j,h0,h1,_,h2,_,h3⟩
 ·
  exact⟨fun _=>h2.trans (he h1),fun h=>absurd h1 h⟩
 ·
  exact⟨fun h=>absurd (h j h0 h1) h2,fun _=>h3⟩
theorem up {R:Type} (n:Nat) (L:Nat→R) (h:∀i,i < n→L i=L (i+1)):L 0=L n:=by
 suffices H:∀m,m≤n→L 0=L m from H n (Nat.le_refl _)
 intro m
 induction m with
 | zero=>exact fun _=>rfl
 | succ m ih=>exact fun hm=>(ih (by omega)).trans (h m (by omega))
theorem ZcE (xs:List Int) (j:Nat):rd xs (j:Int)=xs.getD j 0:=by simp[rd]
theorem Zbi {xs:List Int} {j:Nat} (h:j < xs.length):rd xs (j:Int)=xs[j]:=by simp[rd,List.getD_eq_getElem?_getD,List.getElem?_eq_getElem h]
theorem rd_at {xs:List Int} {i:Int} (h0:0≤i) (h1:i < xs.length):xs[i.toNat]? = some (rd xs i):=by
 have h:i.toNat < xs.length:=by omega
 simp[rd,List.getD_eq_getElem?_getD,List.getElem?_eq_getElem h]
theorem ZcD {xs:List Int} {i:Int} (h0:0≤i) (h1:i < xs.length):rd xs i∈xs:=List.mem_of_getElem? (rd_at h0 h1)
theorem Zfg {xs ys:List Int} (hl:xs.length=ys.length) (h:∀i:Int,0≤i→i < xs.length→rd xs i=rd ys i):xs=ys:=by
 apply List.ext_getElem hl
 intro i h1 h2
 have:=h i (by omega) (by omega)
 simpa [rd,List.getD_eq_getElem?_getD,List.getElem?_eq_getElem h1,List.getElem?_eq_getElem h2] using this
theorem Zbf {g:List (List Int)} {j:Nat} (h:j < g.length):row g (j:Int)=g[j]:=by simp[row,List.getD_eq_getElem?_getD,List.getElem?_eq_getElem h]
theorem Zey {g:List (List Int)} {a:Int} (h0:0≤a) (h1:a < g.length):row g a∈g:=by
 have h:a.toNat < g.length:=by omega
 unfold row
 rw[List.getD_eq_getElem?_getD,List.getElem?_eq_getElem h]
 exact List.getElem_mem h
theorem ZcW {g:List (List Int)} {r:List Int} (h:r∈g):∃i:Int,0≤i∧i < g.length∧row g i=r:=by
 obtain⟨i,hi,rfl⟩:=List.mem_iff_getElem.1 h
 exact⟨i,by omega,by omega,Zbf hi⟩
theorem ZkO {xs ys:List (List Int)} (hl:xs.length=ys.length) (h:∀i:Int,0≤i→i < xs.length→row xs i=row ys i):xs=ys:=by
 apply List.ext_getElem hl
 intro i h1 h2
 have:=h i (by omega) (by omega)
 rwa[Zbf h1,Zbf h2]at this
def AllIn (n:Int) (xs:List Int):Prop:=∀i:Int,0≤i→i < xs.length→0≤rd xs i∧rd xs i < n
theorem ZgU {n x:Int} (h0:0≤x) (h1:x < n):AllIn n [x]:=by
 intro i i0 i1
 have:i=0:=by simp at i1;omega
 subst this;simp[rd, *]
theorem ZgV {n x y:Int} (h0:0≤x) (h1:x < n) (h2:0≤y) (h3:y < n):AllIn n [x,y]:=by
 intro i i0 i1
 have:i=0∨i=1:=by simp at i1;omega
 rcases this with rfl|rfl <;> simp[rd, *]
theorem ZhO {n x y z:Int} (h0:0≤x) (h1:x < n) (h2:0≤y) (h3:y < n) (h4:0≤z) (h5:z < n):AllIn n [x,y,z]:=by
 intro i i0 i1
 have:i=0∨i=1∨i=2:=by simp at i1;omega
 rcases this with rfl|rfl|rfl <;> simp[rd, *]
theorem AllIn.mem {n:Int} {xs:List Int} (h:AllIn n xs) {x:Int} (hx:x∈xs):0≤x∧x < n:=by
 obtain⟨i,hi,rfl⟩:=List.mem_iff_getElem.1 hx
 have:=h i (by omega) (by omega)
 rwa[Zbi hi]at this
theorem Zby {n:Int} {xs:List Int} (h:∀x∈xs,0≤x∧x < n):AllIn n xs:=fun i i0 i1=>h _ (ZcD i0 i1)
theorem AllIn.drop {n:Int} {xs:List Int} (h:AllIn n xs) (j:Nat):AllIn n (xs.drop j):=Zby fun x hx=>h.mem (List.mem_of_mem_drop hx)
theorem AllIn.take {n:Int} {xs:List Int} (h:AllIn n xs) (j:Nat):AllIn n (xs.take j):=Zby fun x hx=>h.mem (List.mem_of_mem_take hx)
theorem AllIn.append {n:Int} {xs ys:List Int} (h:AllIn n xs) (k:AllIn n ys):AllIn n (xs++ys):=Zby fun x hx=>by
 rcases List.mem_append.1 hx with h' | h'
 ·
  exact h.mem h'
 ·
  exact k.mem h'
theorem Zdt {a m:Int} (h:0≤a):Int.tmod a m=a%m:=Int.tmod_eq_emod_of_nonneg h
theorem ZgP {a m:Int} (h:0≤a):Int.tdiv a m=a / m:=Int.tdiv_eq_ediv_of_nonneg h
end Go.Proofs.YtdamfbighdkcbaaGreat.V
set_option maxHeartbeats 2000000
set_option maxRecDepth 20000
namespace Go.Proofs.YtdamfbighdkcbaaGreat.V
open Go.RowKit Go.Proofs.YtdamfbighdkcbaaGreat.D Go.Proofs.YtdamfbighdkcbaaGreat.P
theorem Zg7 {α : Type} (xs:List α) (d : α) (m:Nat) (hm:m < xs.length) :
  (xs.take m++List.replicate (xs.length - m) d).set m xs[m]=xs.take (m+1)++List.replicate (xs.length - (m+1)) d:=by
 have h1:(xs.take m).length=m:=by rw[List.length_take];omega
 rw[List.set_append,if_neg (by omega),h1,Nat.sub_self]
 rw[show xs.length - m=(xs.length - (m+1))+1 by omega,List.replicate_succ,List.set_cons_zero]
 rw[List.take_succ_eq_append_getElem hm,List.append_assoc];rfl
theorem ZiO {α : Type} (xs:List α) (d : α) (m:Nat) (hm:m≤xs.length):(xs.take m++List.replicate (xs.length - m) d).length=xs.length:=by
 rw[List.length_append,List.length_take,List.length_replicate];omega
theorem Zjn (xs:List Int) (hl:xs.length≤1048576):Zad.f xs=some xs:=by
 rw[Zad.f_eq,Int.toNat_natCast]
 (with_reducible repeat (first|refine Zl (by first|assumption|omega|rfl|exact B_pos (by omega)) ?_|refine Zk (by first|assumption|omega|decide|exact B_not (by omega)) ?_|refine Ze (by first|assumption) ?_|dsimp only))
 have:=up xs.length (fun m=>Zad.l0 xs (m:Int) (xs.take m++List.replicate (xs.length - m) 0)) (fun m hm=>by
  have hw:wrapI ((m:Int)+1)=((m+1:Nat):Int):=by rw[w64 (by omega) (by omega)];omega
  have l1:=ZiO xs (0:Int) m (by omega)
  rw[←Zg7 xs 0 m hm,Zad.l0_eq,hw,Int.toNat_natCast,Zbi hm]
  ((with_reducible repeat (first|refine Zl (by first|assumption|omega|rfl|exact B_pos (by omega)) ?_|refine Zk (by first|assumption|omega|decide|exact B_not (by omega)) ?_|refine Ze (by first|assumption) ?_|dsimp only));first|done|(with_reducible rfl)|simp (disch:=omega) only[w64]|(show False;done)))
 simp only[List.take_zero,List.nil_append,Nat.sub_zero,List.take_length,Nat.sub_self,List.replicate_zero,List.append_nil,Int.natCast_zero]at this
 rw[this,Zad.l0_eq]
 ((with_reducible repeat (first|refine Zl (by first|assumption|omega|rfl|exact B_pos (by omega)) ?_|refine Zk (by first|assumption|omega|decide|exact B_not (by omega)) ?_|refine Ze (by first|assumption) ?_|dsimp only));first|done|(with_reducible rfl)|simp (disch:=omega) only[w64]|(show False;done))
theorem ZlA (g:List (List Int)) (hl:g.length≤1048576) (hr:∀r∈g,r.length≤1048576):Zac.f g=some g:=by
 rw[Zac.f_eq,Int.toNat_natCast]
 (with_reducible repeat (first|refine Zl (by first|assumption|omega|rfl|exact B_pos (by omega)) ?_|refine Zk (by first|assumption|omega|decide|exact B_not (by omega)) ?_|refine Ze (by first|assumption) ?_|dsimp only))
 have:=up g.length (fun m=>Zac.l0 g (m:Int) (g.take m++List.replicate (g.length - m) [])) (fun m hm=>by
  have hw:wrapI ((m:Int)+1)=((m+1:Nat):Int):=by rw[w64 (by omega) (by omega)];omega
  have l1:=ZiO g ([]:List Int) m (by omega)
  have ht:=Zjn g[m] (hr _ (List.getElem_mem hm))
  rw[←Zg7 g [] m hm,Zac.l0_eq,hw,Int.toNat_natCast,Zbf hm]
  ((with_reducible repeat (first|refine Zl (by first|assumption|omega|rfl|exact B_pos (by omega)) ?_|refine Zk (by first|assumption|omega|decide|exact B_not (by omega)) ?_|refine Ze (by first|assumption) ?_|dsimp only));first|done|(with_reducible rfl)|simp (disch:=omega) only[w64]|(show False;done)))
 simp only[List.take_zero,List.nil_append,Nat.sub_zero,List.take_length,Nat.sub_self,List.replicate_zero,List.append_nil,Int.natCast_zero]at this
 rw[this,Zac.l0_eq]
 ((with_reducible repeat (first|refine Zl (by first|assumption|omega|rfl|exact B_pos (by omega)) ?_|refine Zk (by first|assumption|omega|decide|exact B_not (by omega)) ?_|refine Ze (by first|assumption) ?_|dsimp only));first|done|(with_reducible rfl)|simp (disch:=omega) only[w64]|(show False;done))
theorem ZnC (g:List (List Int)) (hl:g.length≤1048576) (hr:∀r∈g,r.length≤1048576):ZaQ.f g=some g:=by
 rw[ZaQ.f_eq];((with_reducible repeat (first|refine Zl (by first|assumption|omega|rfl|exact B_pos (by omega)) ?_|refine Zk (by first|assumption|omega|decide|exact B_not (by omega)) ?_|refine Ze (by first|assumption|exact ZlA _ hl hr) ?_|dsimp only));first|done|(with_reducible rfl)|simp (disch:=omega) only[w64]|(show False;done))
theorem Zmt (m:Int) (u:List Int) (hl:u.length≤1048576):ZaF.f m u=some (m,u):=by
 rw[ZaF.f_eq];((with_reducible repeat (first|refine Zl (by first|assumption|omega|rfl|exact B_pos (by omega)) ?_|refine Zk (by first|assumption|omega|decide|exact B_not (by omega)) ?_|refine Ze (by first|assumption|exact Zjn _ hl) ?_|dsimp only));first|done|(with_reducible rfl)|simp (disch:=omega) only[w64]|(show False;done))
theorem Zgk (xs ys:List Int) (hl:xs.length≤maxLen):ZU.f xs ys=some (B (xs=ys)):=by
 have hm:=ZbS
 rw[ZU.f_eq]
 by_cases h:(xs.length:Int)=ys.length
 rotate_left
 ·
  rw[B_neg fun e=>h (by rw[e])]
  ((with_reducible repeat (first|refine Zl (by first|assumption|omega|rfl|exact B_pos (by omega)) ?_|refine Zk (by first|assumption|omega|decide|exact B_not (by omega)) ?_|refine Ze (by first|assumption) ?_|dsimp only));first|done|(with_reducible rfl)|simp (disch:=omega) only[w64]|(show False;done))
 (with_reducible repeat (first|refine Zl (by first|assumption|omega|rfl|exact B_pos (by omega)) ?_|refine Zk (by first|assumption|omega|decide|exact B_not (by omega)) ?_|refine Ze (by first|assumption) ?_|dsimp only))
 rw[ZbQ (show xs=ys↔∀i:Int,0≤i→i < xs.length→rd xs i=rd ys i from⟨fun e i _ _=>by rw[e],fun e=>Zfg (by omega) e⟩)]
 refine scanT xs.length (fun i=>ZU.l0 xs ys i) (fun i=>rd xs i=rd ys i) (fun i i0 i1 _ => ?_) (fun _=>by(rw[ZU.l0_eq]);((with_reducible repeat (first|refine Zl (by first|assumption|omega|rfl|exact B_pos (by omega)) ?_|refine Zk (by first|assumption|omega|decide|exact B_not (by omega)) ?_|refine Ze (by first|assumption) ?_|dsimp only));first|done|(with_reducible rfl)|simp (disch:=omega) only[w64]|(show False;done)))
 refine⟨fun h => ?_,fun h => ?_⟩ <;> (rw[ZU.l0_eq]) <;> ((with_reducible repeat (first|refine Zl (by first|assumption|omega|rfl|exact B_pos (by omega)) ?_|refine Zk (by first|assumption|omega|decide|exact B_not (by omega)) ?_|refine Ze (by first|assumption) ?_|dsimp only));first|done|(with_reducible rfl)|simp (disch:=omega) only[w64]|(show False;done))
theorem ZkM (xs ys:List (List Int)) (hl:xs.length≤maxLen) (hr:∀r∈xs,r.length≤maxLen):Zaa.f xs ys=some (B (xs=ys)):=by
 have hm:=ZbS
 rw[Zaa.f_eq]
 by_cases h:(xs.length:Int)=ys.length
 rotate_left
 ·
  rw[B_neg fun e=>h (by rw[e])]
  ((with_reducible repeat (first|refine Zl (by first|assumption|omega|rfl|exact B_pos (by omega)) ?_|refine Zk (by first|assumption|omega|decide|exact B_not (by omega)) ?_|refine Ze (by first|assumption) ?_|dsimp only));first|done|(with_reducible rfl)|simp (disch:=omega) only[w64]|(show False;done))
 (with_reducible repeat (first|refine Zl (by first|assumption|omega|rfl|exact B_pos (by omega)) ?_|refine Zk (by first|assumption|omega|decide|exact B_not (by omega)) ?_|refine Ze (by first|assumption) ?_|dsimp only))
 rw[ZbQ (show xs=ys↔∀i:Int,0≤i→i < xs.length→row xs i=row ys i from⟨fun e i _ _=>by rw[e],fun e=>ZkO (by omega) e⟩)]
 refine scanT xs.length (fun i=>Zaa.l0 xs ys i) (fun i=>row xs i=row ys i) (fun i i0 i1 _ => ?_) (fun _=>by(rw[Zaa.l0_eq]);((with_reducible repeat (first|refine Zl (by first|assumption|omega|rfl|exact B_pos (by omega)) ?_|refine Zk (by first|assumption|omega|decide|exact B_not (by omega)) ?_|refine Ze (by first|assumption) ?_|dsimp only));first|done|(with_reducible rfl)|simp (disch:=omega) only[w64]|(show False;done)))
 have he:=Zgk (row xs i) (row ys i) (hr _ (Zey i0 i1))
 refine⟨fun h => ?_,fun h => ?_⟩
 ·
  rw[B_pos h]at he
  (rw[Zaa.l0_eq])
  ((with_reducible repeat (first|refine Zl (by first|assumption|omega|rfl|exact B_pos (by omega)) ?_|refine Zk (by first|assumption|omega|decide|exact B_not (by omega)) ?_|refine Ze (by first|assumption) ?_|dsimp only));first|done|(with_reducible rfl)|simp (disch:=omega) only[w64]|(show False;done))
 ·
  rw[B_neg h]at he
  (rw[Zaa.l0_eq])
  ((with_reducible repeat (first|refine Zl (by first|assumption|omega|rfl|exact B_pos (by omega)) ?_|refine Zk (by first|assumption|omega|decide|exact B_not (by omega)) ?_|refine Ze (by first|assumption) ?_|dsimp only));first|done|(with_reducible rfl)|simp (disch:=omega) only[w64]|(show False;done))
theorem Zm6 (xs ys:List (List Int)) (hl:xs.length≤maxLen) (hr:∀r∈xs,r.length≤maxLen):ZaW.f xs ys=some (B (xs=ys)):=by
 have he:=ZkM xs ys hl hr
 rw[ZaW.f_eq,he]
 by_cases h:xs=ys
 ·
  rw[B_pos h];rfl
 ·
  rw[B_neg h];rfl
theorem Zl0 (m n:Int) (u v:List Int) (hl:u.length≤maxLen):ZaM.f m u n v=some (B (m=n∧u=v)):=by
 have he:=Zgk u v hl
 rw[ZaM.f_eq]
 by_cases h:m=n∧u=v
 ·
  rw[B_pos h.2]at he;rw[B_pos h];((with_reducible repeat (first|refine Zl (by first|assumption|omega|rfl|exact B_pos (by omega)) ?_|refine Zk (by first|assumption|omega|decide|exact B_not (by omega)) ?_|refine Ze (by first|assumption) ?_|dsimp only));first|done|(with_reducible rfl)|simp (disch:=omega) only[w64]|(show False;done))
 ·
  rw[B_neg h]
  by_cases h1:m=n
  ·
   rw[B_neg fun k=>h ⟨h1,k⟩]at he;((with_reducible repeat (first|refine Zl (by first|assumption|omega|rfl|exact B_pos (by omega)) ?_|refine Zk (by first|assumption|omega|decide|exact B_not (by omega)) ?_|refine Ze (by first|assumption) ?_|dsimp only));first|done|(with_reducible rfl)|simp (disch:=omega) only[w64]|(show False;done))
  ·
   ((with_reducible repeat (first|refine Zl (by first|assumption|omega|rfl|exact B_pos (by omega)) ?_|refine Zk (by first|assumption|omega|decide|exact B_not (by omega)) ?_|refine Ze (by first|assumption) ?_|dsimp only));first|done|(with_reducible rfl)|simp (disch:=omega) only[w64]|(show False;done))
theorem Zlp (xs:List Int) (hl:xs.length≤maxLen):ZU.f xs xs=some true:=by rw[Zgk xs xs hl,B_pos rfl]
theorem Zj2 (xs:List (List Int)) (hl:xs.length≤maxLen) (hr:∀r∈xs,r.length≤maxLen):ZaW.f xs xs=some true:=by rw[Zm6 xs xs hl hr,B_pos rfl]
theorem Zit (m:Int) (u:List Int) (hl:u.length≤maxLen):ZaM.f m u m u=some true:=by rw[Zl0 m m u u hl,B_pos ⟨rfl,rfl⟩]
theorem Zjl (xs:List Int) (left:Int) (hl:xs.length≤maxLen) (l0:0≤left) (l1:left≤1048576) :
  ∃t,ZaE.f xs left=some t∧(t < 0∨(0≤t∧t≤1048576∧xs.length≤1048576)):=by
 have hm:=ZbS
 rw[ZaE.f_eq,w64 (by omega) (by omega)]
 by_cases h:left - (xs.length:Int) < 0
 ·
  exact⟨_,if_pos h,.inl (by omega)⟩
 ·
  exact⟨_,if_neg h,.inr (by omega)⟩
theorem Zly (g:List (List Int)) (left:Int) (hl:g.length≤maxLen) (hr:∀r∈g,r.length≤maxLen) (l0:0≤left) (l1:left≤1048576) :
  ∃t,Zab.f g left=some t∧(t < 0∨(0≤t∧t≤1048576∧g.length≤1048576∧∀r∈g,r.length≤1048576)):=by
 have hm:=ZbS
 rw[Zab.f_eq,w64 (by omega) (by omega)]
 by_cases h:left - (g.length:Int) < 0
 ·
  exact⟨_,if_pos h,.inl (by omega)⟩
 rw[if_neg h]
 have H:∀d m:Nat,m+d=g.length→∀s:Int,0≤s→s≤1048576→(∀j,j < m→(row g j).length≤1048576)→∃t,Zab.l0 g s (m:Int)=some t∧(t < 0∨(0≤t∧t≤1048576∧g.length≤1048576∧∀r∈g,r.length≤1048576)):=by
  intro d
  induction d with
  | zero =>
   intro m hd s s0 s1 hs
   obtain rfl:m=g.length:=by omega
   refine⟨s,by(rw[Zab.l0_eq]);((with_reducible repeat (first|refine Zl (by first|assumption|omega|rfl|exact B_pos (by omega)) ?_|refine Zk (by first|assumption|omega|decide|exact B_not (by omega)) ?_|refine Ze (by first|assumption) ?_|dsimp only));first|done|(with_reducible rfl)|simp (disch:=omega) only[w64]|(show False;done)),.inr ⟨s0,s1,by omega,fun r hr' => ?_⟩⟩
   obtain⟨i,i0,i1,rfl⟩:=ZcW hr'
   have:=hs i.toNat (by omega)
   rwa[show((i.toNat:Nat):Int)=i by omega]at this
  | succ d ih =>
   intro m hd s s0 s1 hs
   obtain⟨t,ht,h⟩:=Zjl (row g m) s (hr _ (Zey (by omega) (by omega))) s0 s1
   have hw:wrapI ((m:Int)+1)=((m+1:Nat):Int):=by rw[w64 (by omega) (by omega)];omega
   rcases h with h|⟨h0,h1,h2⟩
   ·
    refine⟨-1,?_,.inl (by omega)⟩
    (rw[Zab.l0_eq])
    ((with_reducible repeat (first|refine Zl (by first|assumption|omega|rfl|exact B_pos (by omega)) ?_|refine Zk (by first|assumption|omega|decide|exact B_not (by omega)) ?_|refine Ze (by first|assumption) ?_|dsimp only));first|done|(with_reducible rfl)|simp (disch:=omega) only[w64]|(show False;done))
   ·
    obtain⟨t', ht', h'⟩:=ih (m+1) (by omega) t h0 h1 (fun j hj=>by
     by_cases e:j=m
     ·
      rw[e];exact h2
     ·
      exact hs j (by omega))
    refine⟨t', ?_,h'⟩
    (rw[Zab.l0_eq,hw])
    (with_reducible repeat (first|refine Zl (by first|assumption|omega|rfl|exact B_pos (by omega)) ?_|refine Zk (by first|assumption|omega|decide|exact B_not (by omega)) ?_|refine Ze (by first|assumption) ?_|dsimp only))
    exact ht'
 have:=H g.length 0 (by omega) (left - g.length) (by omega) (by omega) (fun j hj=>by omega)
 exact this
theorem ZnB (g:List (List Int)) (left:Int) (hl:g.length≤maxLen) (hr:∀r∈g,r.length≤maxLen) (l0:0≤left) (l1:left≤1048576) :
  ∃t,ZaZ.f g left=some t∧(t < 0∨(0≤t∧t≤1048576∧g.length≤1048576∧∀r∈g,r.length≤1048576)):=by
 obtain⟨t,ht,h⟩:=Zly g left hl hr l0 l1
 rw[ZaZ.f_eq]
 rcases h with h|h
 ·
  exact⟨-1,by((with_reducible repeat (first|refine Zl (by first|assumption|omega|rfl|exact B_pos (by omega)) ?_|refine Zk (by first|assumption|omega|decide|exact B_not (by omega)) ?_|refine Ze (by first|assumption) ?_|dsimp only));first|done|(with_reducible rfl)|simp (disch:=omega) only[w64]|(show False;done)),.inl (by omega)⟩
 ·
  have:=h.1
  exact⟨t,by((with_reducible repeat (first|refine Zl (by first|assumption|omega|rfl|exact B_pos (by omega)) ?_|refine Zk (by first|assumption|omega|decide|exact B_not (by omega)) ?_|refine Ze (by first|assumption) ?_|dsimp only));first|done|(with_reducible rfl)|simp (disch:=omega) only[w64]|(show False;done)),.inr h⟩
theorem Zmr (m:Int) (u:List Int) (left:Int) (hl:u.length≤maxLen) (l0:0≤left) (l1:left≤1048576) :
  ∃t,ZaU.f m u left=some t∧(t < 0∨(0≤t∧t≤1048576∧u.length≤1048576)):=by
 obtain⟨t,ht,h⟩:=Zjl u left hl l0 l1
 rw[ZaU.f_eq]
 rcases h with h|h
 ·
  exact⟨-1,by((with_reducible repeat (first|refine Zl (by first|assumption|omega|rfl|exact B_pos (by omega)) ?_|refine Zk (by first|assumption|omega|decide|exact B_not (by omega)) ?_|refine Ze (by first|assumption) ?_|dsimp only));first|done|(with_reducible rfl)|simp (disch:=omega) only[w64]|(show False;done)),.inl (by omega)⟩
 ·
  have:=h.1
  exact⟨t,by((with_reducible repeat (first|refine Zl (by first|assumption|omega|rfl|exact B_pos (by omega)) ?_|refine Zk (by first|assumption|omega|decide|exact B_not (by omega)) ?_|refine Ze (by first|assumption) ?_|dsimp only));first|done|(with_reducible rfl)|simp (disch:=omega) only[w64]|(show False;done)),.inr h⟩
def MkS (a:Int) (n:Nat):List Int:=(List.range n).map fun(i:Nat)=>a+(i:Int)
theorem ZcH (a:Int) (n:Nat):(MkS a n).length=n:=by simp[MkS]
theorem ZnH {a:Int} {n:Nat} {i:Int} (h0:0≤i) (h1:i < n):rd (MkS a n) i=a+i:=by
 have h:i.toNat < n:=by omega
 simp[rd,MkS,List.getD_eq_getElem?_getD,h]
 omega
theorem ZlH (a:Int) (xs:List Int) (m:Nat) (hm:m < xs.length):(MkS a m++xs.drop m).set m (a+m)=MkS a (m+1)++xs.drop (m+1):=by
 rw[List.set_append,if_neg (by rw[ZcH];omega),ZcH,Nat.sub_self,List.drop_eq_getElem_cons hm,List.set_cons_zero]
 simp[MkS,List.range_succ]
theorem markS (xs:List Int) (a:Int) (h0:0≤a) (h1:a+xs.length≤4611686018427387904):ZN.f xs a=some (a+xs.length,MkS a xs.length):=by
 rw[ZN.f_eq]
 have:=up xs.length (fun m=>ZN.l0 (a+(m:Int)) (m:Int) (MkS a m++xs.drop m)) (fun m hm=>by
  have hw:wrapI ((m:Int)+1)=((m+1:Nat):Int):=by rw[w64 (by omega) (by omega)];omega
  have hw2:wrapI (a+(m:Int)+1)=a+((m+1:Nat):Int):=by rw[w64 (by omega) (by omega)];omega
  have l1:(MkS a m++xs.drop m).length=xs.length:=by rw[List.length_append,ZcH,List.length_drop];omega
  rw[←ZlH a xs m hm,ZN.l0_eq,hw,hw2,Int.toNat_natCast]
  ((with_reducible repeat (first|refine Zl (by first|assumption|omega|rfl|exact B_pos (by omega)) ?_|refine Zk (by first|assumption|omega|decide|exact B_not (by omega)) ?_|refine Ze (by first|assumption) ?_|dsimp only));first|done|(with_reducible rfl)|simp (disch:=omega) only[w64]|(show False;done)))
 simp only[Int.natCast_zero,Int.add_zero,List.drop_zero,List.drop_length,List.append_nil,show MkS a 0=[]from rfl,List.nil_append]at this
 have hl:=ZcH a xs.length
 rw[this,ZN.l0_eq]
 ((with_reducible repeat (first|refine Zl (by first|assumption|omega|rfl|exact B_pos (by omega)) ?_|refine Zk (by first|assumption|omega|decide|exact B_not (by omega)) ?_|refine Ze (by first|assumption) ?_|dsimp only));first|done|(with_reducible rfl)|simp (disch:=omega) only[w64]|(show False;done))
theorem heldS (a:Int) (n:Nat) (h0:0≤a) (h1:a+n≤4611686018427387904):ZX.f (MkS a n) a=some (a+n):=by
 rw[ZX.f_eq]
 have hl:=ZcH a n
 have:=up n (fun m=>ZX.l0 (MkS a n) (a+(m:Int)) (m:Int)) (fun m hm=>by
  have hw:wrapI ((m:Int)+1)=((m+1:Nat):Int):=by rw[w64 (by omega) (by omega)];omega
  have hw2:wrapI (a+(m:Int)+1)=a+((m+1:Nat):Int):=by rw[w64 (by omega) (by omega)];omega
  have e:=ZnH (a:=a) (n:=n) (i:=m) (by omega) (by omega)
  rw[ZX.l0_eq,hw,hw2]
  ((with_reducible repeat (first|refine Zl (by first|assumption|omega|rfl|exact B_pos (by omega)) ?_|refine Zk (by first|assumption|omega|decide|exact B_not (by omega)) ?_|refine Ze (by first|assumption) ?_|dsimp only));first|done|(with_reducible rfl)|simp (disch:=omega) only[w64]|(show False;done)))
 simp only[Int.natCast_zero,Int.add_zero]at this
 rw[this,ZX.l0_eq]
 ((with_reducible repeat (first|refine Zl (by first|assumption|omega|rfl|exact B_pos (by omega)) ?_|refine Zk (by first|assumption|omega|decide|exact B_not (by omega)) ?_|refine Ze (by first|assumption) ?_|dsimp only));first|done|(with_reducible rfl)|simp (disch:=omega) only[w64]|(show False;done))
def tot:List (List Int)→Nat
 | []=>0
 | r :: g=>r.length+tot g
def MkSS (a:Int):List (List Int)→List (List Int)
 | []=>[]
 | r :: g=>MkS a r.length :: MkSS (a+r.length) g
theorem Zn3 (b:Nat) (g:List (List Int)) (h:∀r∈g,r.length≤b):tot g≤g.length*b:=by
 induction g with
 | nil=>simp[tot]
 | cons r g ih =>
  have h1:=ih fun r hr=>h r (List.mem_cons_of_mem _ hr)
  have h2:=h r (List.mem_cons_self ..)
  rw[List.length_cons,Nat.succ_mul,tot]
  omega
theorem ZlB {g:List (List Int)} (h1:g.length≤1048576) (h2:∀r∈g,r.length≤1048576):tot g≤1099511627776 :=
 Nat.le_trans (Zn3 1048576 g h2) (Nat.mul_le_mul_right 1048576 h1)
theorem ZnT (g:List (List Int)) (a:Int) (h0:0≤a) (h1:a+tot g≤4611686018427387904) (hl:g.length≤4611686018427387904):ZT.f g a=some (a+tot g,MkSS a g):=by
 rw[ZT.f_eq]
 suffices H:∀(g done:List (List Int)) (b:Int),0≤b→b+tot g≤4611686018427387904→done.length+g.length≤4611686018427387904→ZT.l0 b (done.length:Int) (done++g)=some (b+tot g,done++MkSS b g)from by
  simpa using H g [] a h0 h1 (by simpa using hl)
 intro g
 induction g with
 | nil =>
  intro done b b0 b1 hd
  rw[ZT.l0_eq,List.append_nil]
  have:b+((tot []:Nat):Int)=b:=by simp[tot]
  rw[this,MkSS,List.append_nil]
  ((with_reducible repeat (first|refine Zl (by first|assumption|omega|rfl|exact B_pos (by omega)) ?_|refine Zk (by first|assumption|omega|decide|exact B_not (by omega)) ?_|refine Ze (by first|assumption) ?_|dsimp only));first|done|(with_reducible rfl)|simp (disch:=omega) only[w64]|(show False;done))
 | cons r g ih =>
  intro done b b0 b1 hd
  simp only[tot,List.length_cons]at b1 hd
  have m1:(done++r :: g).length=done.length+g.length+1:=by rw[List.length_append,List.length_cons];omega
  have hw:wrapI ((done.length:Int)+1)=(((done++[MkS b r.length]).length:Nat):Int):=by
   rw[w64 (by omega) (by omega),List.length_append,List.length_singleton];omega
  have e:row (done++r :: g) (done.length:Int)=r:=by simp[row,List.getD_eq_getElem?_getD]
  have e2:(done++r :: g).set done.length (MkS b r.length)=(done++[MkS b r.length])++g:=by
   rw[List.set_append,if_neg (by omega),Nat.sub_self,List.set_cons_zero];simp
  have hm:=markS r b b0 (by omega)
  rw[ZT.l0_eq,hw,e,Int.toNat_natCast]
  (with_reducible repeat (first|refine Zl (by first|assumption|omega|rfl|exact B_pos (by omega)) ?_|refine Zk (by first|assumption|omega|decide|exact B_not (by omega)) ?_|refine Ze (by first|assumption) ?_|dsimp only))
  have:=ih (done++[MkS b r.length]) (b+r.length) (by omega) (by omega) (by rw[List.length_append,List.length_singleton];omega)
  rw[e2,this]
  simp only[MkSS,tot,List.append_assoc,List.singleton_append,Int.natCast_add,Int.add_assoc]
theorem ZkX (g:List (List Int)) (a:Int) (h0:0≤a) (h1:a+tot g≤4611686018427387904) (hl:g.length≤4611686018427387904):ZaI.f g a=some (a+tot g,MkSS a g):=by
 have:=ZnT g a h0 h1 hl
 rw[ZaI.f_eq];((with_reducible repeat (first|refine Zl (by first|assumption|omega|rfl|exact B_pos (by omega)) ?_|refine Zk (by first|assumption|omega|decide|exact B_not (by omega)) ?_|refine Ze (by first|assumption) ?_|dsimp only));first|done|(with_reducible rfl)|simp (disch:=omega) only[w64]|(show False;done))
theorem ZjM (m:Int) (xs:List Int) (a:Int) (h0:0≤a) (h1:a+xs.length≤4611686018427387904):ZaB.f m xs a=some (a+xs.length,MkS a xs.length):=by
 have:=markS xs a h0 h1
 rw[ZaB.f_eq];((with_reducible repeat (first|refine Zl (by first|assumption|omega|rfl|exact B_pos (by omega)) ?_|refine Zk (by first|assumption|omega|decide|exact B_not (by omega)) ?_|refine Ze (by first|assumption) ?_|dsimp only));first|done|(with_reducible rfl)|simp (disch:=omega) only[w64]|(show False;done))
end Go.Proofs.YtdamfbighdkcbaaGreat.V
namespace Go.Proofs.YtdamfbighdkcbaaGreat.V
open Go.RowKit Go.Proofs.YtdamfbighdkcbaaGreat.D Go.Proofs.YtdamfbighdkcbaaGreat.P
theorem areIn (n:Int) (xs:List Int) (hl:xs.length≤maxLen):ZaN.f n xs=some (B (AllIn n xs)):=by
 have hm:=ZbS
 rw[ZaN.f_eq]
 refine scanT xs.length (fun i=>ZaN.l0 n xs (xs.length:Int) i) (fun i=>0≤rd xs i∧rd xs i < n) (fun i h0 h1 _ => ?_) (fun _ => ?_)
 ·
  refine⟨fun h => ?_,fun h => ?_⟩ <;> (rw[ZaN.l0_eq])
  ·
   ((with_reducible repeat (first|refine Zl (by first|assumption|omega|rfl|exact B_pos (by omega)) ?_|refine Zk (by first|assumption|omega|decide|exact B_not (by omega)) ?_|refine Ze (by first|assumption) ?_|dsimp only));first|done|(with_reducible rfl)|simp (disch:=omega) only[w64]|(show False;done))
  ·
   by_cases h2:rd xs i < 0 <;> ((with_reducible repeat (first|refine Zl (by first|assumption|omega|rfl|exact B_pos (by omega)) ?_|refine Zk (by first|assumption|omega|decide|exact B_not (by omega)) ?_|refine Ze (by first|assumption) ?_|dsimp only));first|done|(with_reducible rfl)|simp (disch:=omega) only[w64]|(show False;done))
 ·
  (rw[ZaN.l0_eq])
  ((with_reducible repeat (first|refine Zl (by first|assumption|omega|rfl|exact B_pos (by omega)) ?_|refine Zk (by first|assumption|omega|decide|exact B_not (by omega)) ?_|refine Ze (by first|assumption) ?_|dsimp only));first|done|(with_reducible rfl)|simp (disch:=omega) only[w64]|(show False;done))
theorem index_ (xs:List Int) (x:Int) (hl:xs.length≤maxLen) :
  ((∀i:Int,0≤i→i < xs.length→rd xs i≠x)∧ZD.f xs x=some (-1)) ∨
  ∃i:Int,0≤i∧i < xs.length∧(∀j:Int,0≤j→j < i→rd xs j≠x)∧rd xs i=x∧ZD.f xs x=some i:=by
 have hm:=ZbS
 rw[ZD.f_eq]
 suffices H:∀d m:Nat,m+d=xs.length→(∀j:Int,0≤j→j < m→rd xs j≠x) →
   ((∀i:Int,0≤i→i < xs.length→rd xs i≠x)∧ZD.l0 xs x (xs.length:Int) m=some (-1)) ∨
   ∃i:Int,0≤i∧i < xs.length∧(∀j:Int,0≤j→j < i→rd xs j≠x)∧rd xs i=x∧ZD.l0 xs x (xs.length:Int) m=some i from
  H xs.length 0 (by omega) (fun j h0 h1=>by omega)
 intro d
 induction d with
 | zero =>
  intro m hd hp
  obtain rfl:m=xs.length:=by omega
  refine .inl ⟨hp,?_⟩
  (rw[ZD.l0_eq])
  ((with_reducible repeat (first|refine Zl (by first|assumption|omega|rfl|exact B_pos (by omega)) ?_|refine Zk (by first|assumption|omega|decide|exact B_not (by omega)) ?_|refine Ze (by first|assumption) ?_|dsimp only));first|done|(with_reducible rfl)|simp (disch:=omega) only[w64]|(show False;done))
 | succ d ih =>
  intro m hd hp
  by_cases h2:x=rd xs m
  ·
   refine .inr ⟨m,by omega,by omega,hp,h2.symm,?_⟩
   (rw[ZD.l0_eq])
   ((with_reducible repeat (first|refine Zl (by first|assumption|omega|rfl|exact B_pos (by omega)) ?_|refine Zk (by first|assumption|omega|decide|exact B_not (by omega)) ?_|refine Ze (by first|assumption) ?_|dsimp only));first|done|(with_reducible rfl)|simp (disch:=omega) only[w64]|(show False;done))
  ·
   have st:ZD.l0 xs x (xs.length:Int) m=ZD.l0 xs x (xs.length:Int) ((m+1:Nat):Int):=by
    rw[Int.natCast_add,Int.natCast_one]
    (rw[ZD.l0_eq])
    ((with_reducible repeat (first|refine Zl (by first|assumption|omega|rfl|exact B_pos (by omega)) ?_|refine Zk (by first|assumption|omega|decide|exact B_not (by omega)) ?_|refine Ze (by first|assumption) ?_|dsimp only));first|done|(with_reducible rfl)|simp (disch:=omega) only[w64]|(show False;done))
   rw[st]
   refine ih (m+1) (by omega) fun j k0 k1 => ?_
   by_cases e:j=m
   ·
    rw[e];exact fun h=>h2 h.symm
   ·
    exact hp j k0 (by omega)
theorem Zkw (xs:List Int) (x:Int) (hl:xs.length≤maxLen):ZW.f xs x=some (B (∃i:Int,0≤i∧i < xs.length∧rd xs i=x)):=by
 rw[ZW.f_eq]
 rcases index_ xs x hl with ⟨h,e⟩|⟨i,h0,h1,_,h2,e⟩
 ·
  rw[e,B_neg fun⟨i,h0,h1,h2⟩=>h i h0 h1 h2];rfl
 ·
  rw[e,B_pos ⟨i,h0,h1,h2⟩];simp[h0]
structure Grp (g:List (List Int)):Prop where
 n1:1≤g.length
 n8:g.length≤8
 row:∀a:Int,0≤a→a < g.length→(row g a).length=g.length
 ent:∀a b:Int,0≤a→a < g.length→0≤b→b < g.length→0≤T g a b∧T g a b < g.length
 one:∀a:Int,0≤a→a < g.length→T g 0 a=a
 one' : ∀a:Int,0≤a→a < g.length→T g a 0=a
 assoc:∀a b c:Int,0≤a→a < g.length→0≤b→b < g.length→0≤c→c < g.length→T g (T g a b) c=T g a (T g b c)
 inv:∀a:Int,0≤a→a < g.length→∃b:Int,0≤b∧b < g.length∧T g a b=0
theorem Grp.inv2 {g:List (List Int)} (h:Grp g) {a:Int} (h0:0≤a) (h1:a < g.length):∃b:Int,0≤b∧b < g.length∧T g a b=0∧T g b a=0:=by
 obtain⟨b,b0,b1,hb⟩:=h.inv a h0 h1
 obtain⟨c,c0,c1,hc⟩:=h.inv b b0 b1
 refine⟨b,b0,b1,hb,?_⟩
 have hac:c=a:=by
  have e1:=h.assoc a b c h0 h1 b0 b1 c0 c1
  rw[hb,hc,h.one c c0 c1,h.one' a h0 h1]at e1
  exact e1
 rw[←hac];exact hc
theorem Zjg {g:List (List Int)} (hr:∀r∈g,r.length≤maxLen) {a:Int} (h0:0≤a) (h1:a < g.length):(row g a).length≤maxLen:=hr _ (Zey h0 h1)
def Tab (g:List (List Int)):Prop:=∀a:Int,0≤a→a < g.length→(row g a).length=g.length∧AllIn g.length (row g a)
def Law (g:List (List Int)) (a:Int):Prop:=T g 0 a=a∧T g a 0=a∧(∃b:Int,0≤b∧b < g.length∧T g a b=0)∧∀b:Int,0≤b→b < g.length→∀c:Int,0≤c→c < g.length→T g (T g a b) c=T g a (T g b c)
theorem Zh4 (g:List (List Int)):Grp g↔(1≤g.length∧g.length≤8)∧Tab g∧∀a:Int,0≤a→a < g.length→Law g a:=by
 constructor
 ·
  intro h
  refine⟨⟨h.n1,h.n8⟩,fun a h0 h1=>⟨h.row a h0 h1,fun i i0 i1 => ?_⟩,fun a h0 h1=>⟨h.one a h0 h1,h.one' a h0 h1,h.inv a h0 h1,fun b b0 b1 c c0 c1=>h.assoc a b c h0 h1 b0 b1 c0 c1⟩⟩
  have:=h.row a h0 h1
  exact h.ent a i h0 h1 i0 (by omega)
 ·
  rintro⟨⟨h1,h8⟩,ht,hl⟩
  refine⟨h1,h8,fun a a0 a1=>(ht a a0 a1).1,fun a b a0 a1 b0 b1 => ?_,fun a a0 a1=>(hl a a0 a1).1,fun a a0 a1=>(hl a a0 a1).2.1,fun a b c a0 a1 b0 b1 c0 c1=>(hl a a0 a1).2.2.2 b b0 b1 c c0 c1,fun a a0 a1=>(hl a a0 a1).2.2.1⟩
  have:=(ht a a0 a1).1
  exact(ht a a0 a1).2 b b0 (by omega)
theorem Znd (g:List (List Int)) (hl:g.length≤maxLen) (hr:∀r∈g,r.length≤maxLen):Zy.f g=some (B (Grp g)):=by
 have hm:=ZbS
 rw[ZbQ (Zh4 g)]
 (rw[Zy.f_eq])
 by_cases c1:(g.length:Int) < 1∨(g.length:Int) > 8
 ·
  rw[B_neg fun h=>by omega]
  by_cases c2:(g.length:Int) < 1 <;> ((with_reducible repeat (first|refine Zl (by first|assumption|omega|rfl|exact B_pos (by omega)) ?_|refine Zk (by first|assumption|omega|decide|exact B_not (by omega)) ?_|refine Ze (by first|assumption|exact Zao.f_eq _) ?_|dsimp only));first|done|(with_reducible rfl)|simp (disch:=omega) only[w64]|(show False;done))
 rw[ZbQ (show((1≤g.length∧g.length≤8)∧Tab g∧∀a:Int,0≤a→a < g.length→Law g a)↔(Tab g∧∀a:Int,0≤a→a < g.length→Law g a)from⟨fun h=>h.2,fun h=>⟨by omega,h⟩⟩)]
 (with_reducible repeat (first|refine Zl (by first|assumption|omega|rfl|exact B_pos (by omega)) ?_|refine Zk (by first|assumption|omega|decide|exact B_not (by omega)) ?_|refine Ze (by first|assumption|exact Zao.f_eq _) ?_|dsimp only))
 refine scanB g.length (fun i=>Zy.l0 (g.length:Int) g (g.length:Int) i g) (fun a=>(row g a).length=g.length∧AllIn g.length (row g a)) _ (fun i h0 h1 _ => ?_) (fun ht => ?_)
 ·
  have ha:=areIn g.length (row g i) (Zjg hr h0 h1)
  refine⟨fun h => ?_,fun h => ?_⟩ <;> (rw[Zy.l0_eq])
  ·
   have h1:=h.1
   rw[B_pos h.2]at ha
   ((with_reducible repeat (first|refine Zl (by first|assumption|omega|rfl|exact B_pos (by omega)) ?_|refine Zk (by first|assumption|omega|decide|exact B_not (by omega)) ?_|refine Ze (by first|assumption) ?_|dsimp only));first|done|(with_reducible rfl)|simp (disch:=omega) only[w64]|(show False;done))
  ·
   by_cases h2:((row g i).length:Int)=g.length
   ·
    rw[B_neg fun h3=>h ⟨by omega,h3⟩]at ha
    ((with_reducible repeat (first|refine Zl (by first|assumption|omega|rfl|exact B_pos (by omega)) ?_|refine Zk (by first|assumption|omega|decide|exact B_not (by omega)) ?_|refine Ze (by first|assumption) ?_|dsimp only));first|done|(with_reducible rfl)|simp (disch:=omega) only[w64]|(show False;done))
   ·
    ((with_reducible repeat (first|refine Zl (by first|assumption|omega|rfl|exact B_pos (by omega)) ?_|refine Zk (by first|assumption|omega|decide|exact B_not (by omega)) ?_|refine Ze (by first|assumption) ?_|dsimp only));first|done|(with_reducible rfl)|simp (disch:=omega) only[w64]|(show False;done))
 (rw[Zy.l0_eq])
 (with_reducible repeat (first|refine Zl (by first|assumption|omega|rfl|exact B_pos (by omega)) ?_|refine Zk (by first|assumption|omega|decide|exact B_not (by omega)) ?_|refine Ze (by first|assumption) ?_|dsimp only))
 refine scanT g.length (fun i=>Zy.l1 (g.length:Int) (g.length:Int) i g) (Law g) (fun a a0 a1 _ => ?_) (fun _ => ?_)
 rotate_left
 ·
  (rw[Zy.l1_eq])
  ((with_reducible repeat (first|refine Zl (by first|assumption|omega|rfl|exact B_pos (by omega)) ?_|refine Zk (by first|assumption|omega|decide|exact B_not (by omega)) ?_|refine Ze (by first|assumption) ?_|dsimp only));first|done|(with_reducible rfl)|simp (disch:=omega) only[w64]|(show False;done))
 have hlen:∀x:Int,0≤x→x < g.length→((row g x).length:Int)=g.length:=fun x x0 x1=>by rw[(ht x x0 x1).1]
 have hent:∀x y:Int,0≤x→x < g.length→0≤y→y < g.length→0≤T g x y∧T g x y < g.length:=fun x y x0 x1 y0 y1=>(ht x x0 x1).2 y y0 (by rw[hlen x x0 x1];exact y1)
 have l0:=hlen 0 (by omega) (by omega)
 have la:=hlen a a0 a1
 have hc:=Zkw (row g a) 0 (Zjg hr a0 a1)
 rw[ZbQ (show(∃i:Int,0≤i∧i < (row g a).length∧rd (row g a) i=0)↔∃b:Int,0≤b∧b < g.length∧T g a b=0 by rw[la];exact Iff.rfl)]at hc
 by_cases h2:T g 0 a=a
 rotate_left
 ·
  refine⟨fun h=>absurd h.1 h2,fun _ => ?_⟩
  (rw[Zy.l1_eq])
  ((with_reducible repeat (first|refine Zl (by first|assumption|omega|rfl|exact B_pos (by omega)) ?_|refine Zk (by first|assumption|omega|decide|exact B_not (by omega)) ?_|refine Ze (by first|assumption) ?_|dsimp only));first|done|(with_reducible rfl)|simp (disch:=omega) only[w64]|(show False;done))
 by_cases h3:T g a 0=a
 rotate_left
 ·
  refine⟨fun h=>absurd h.2.1 h3,fun _ => ?_⟩
  (rw[Zy.l1_eq])
  ((with_reducible repeat (first|refine Zl (by first|assumption|omega|rfl|exact B_pos (by omega)) ?_|refine Zk (by first|assumption|omega|decide|exact B_not (by omega)) ?_|refine Ze (by first|assumption) ?_|dsimp only));first|done|(with_reducible rfl)|simp (disch:=omega) only[w64]|(show False;done))
 by_cases h4:∃b:Int,0≤b∧b < g.length∧T g a b=0
 rotate_left
 ·
  refine⟨fun h=>absurd h.2.2.1 h4,fun _ => ?_⟩
  rw[B_neg h4]at hc
  (rw[Zy.l1_eq])
  ((with_reducible repeat (first|refine Zl (by first|assumption|omega|rfl|exact B_pos (by omega)) ?_|refine Zk (by first|assumption|omega|decide|exact B_not (by omega)) ?_|refine Ze (by first|assumption) ?_|dsimp only));first|done|(with_reducible rfl)|simp (disch:=omega) only[w64]|(show False;done))
 rw[B_pos h4]at hc
 have inner:=scanI g.length (fun b=>Zy.l2 (g.length:Int) a (g.length:Int) a (g.length:Int) b g) (fun b=>∀c:Int,0≤c→c < g.length→T g (T g a b) c=T g a (T g b c)) (some false) (Zy.l1 (g.length:Int) (g.length:Int) (a+1) g)
  (fun b b0 b1 _=>by
   obtain⟨e0,e1⟩:=hent a b a0 a1 b0 b1
   have le:=hlen _ e0 e1
   have lb:=hlen b b0 b1
   have:=scanI g.length (fun c=>Zy.l3 (g.length:Int) a b (g.length:Int) a (g.length:Int) b (g.length:Int) c g) (fun c=>T g (T g a b) c=T g a (T g b c)) (some false) (Zy.l2 (g.length:Int) a (g.length:Int) a (g.length:Int) (b+1) g)
    (fun c c0 c1 _=>by
     obtain⟨f0,f1⟩:=hent b c b0 b1 c0 c1
     refine⟨fun h => ?_,fun h => ?_⟩ <;> (rw[Zy.l3_eq]) <;> ((with_reducible repeat (first|refine Zl (by first|assumption|omega|rfl|exact B_pos (by omega)) ?_|refine Zk (by first|assumption|omega|decide|exact B_not (by omega)) ?_|refine Ze (by first|assumption) ?_|dsimp only));first|done|(with_reducible rfl)|simp (disch:=omega) only[w64]|(show False;done))) (fun _=>by(rw[Zy.l3_eq]);((with_reducible repeat (first|refine Zl (by first|assumption|omega|rfl|exact B_pos (by omega)) ?_|refine Zk (by first|assumption|omega|decide|exact B_not (by omega)) ?_|refine Ze (by first|assumption) ?_|dsimp only));first|done|(with_reducible rfl)|simp (disch:=omega) only[w64]|(show False;done)))
   refine⟨fun h => ?_,fun h => ?_⟩ <;> (rw[Zy.l2_eq])
   ·
    (with_reducible repeat (first|refine Zl (by first|assumption|omega|rfl|exact B_pos (by omega)) ?_|refine Zk (by first|assumption|omega|decide|exact B_not (by omega)) ?_|refine Ze (by first|assumption) ?_|dsimp only))
    exact this.1 h
   ·
    (with_reducible repeat (first|refine Zl (by first|assumption|omega|rfl|exact B_pos (by omega)) ?_|refine Zk (by first|assumption|omega|decide|exact B_not (by omega)) ?_|refine Ze (by first|assumption) ?_|dsimp only))
    exact this.2 h) (fun _=>by(rw[Zy.l2_eq]);((with_reducible repeat (first|refine Zl (by first|assumption|omega|rfl|exact B_pos (by omega)) ?_|refine Zk (by first|assumption|omega|decide|exact B_not (by omega)) ?_|refine Ze (by first|assumption) ?_|dsimp only));first|done|(with_reducible rfl)|simp (disch:=omega) only[w64]|(show False;done)))
 refine⟨fun h => ?_,fun h => ?_⟩ <;> (rw[Zy.l1_eq]) <;> (with_reducible repeat (first|refine Zl (by first|assumption|omega|rfl|exact B_pos (by omega)) ?_|refine Zk (by first|assumption|omega|decide|exact B_not (by omega)) ?_|refine Ze (by first|assumption) ?_|dsimp only))
 ·
  exact inner.1 h.2.2.2
 ·
  exact inner.2 fun k=>h ⟨h2,h3,h4,k⟩
end Go.Proofs.YtdamfbighdkcbaaGreat.V
set_option maxHeartbeats 4000000
namespace Go.Proofs.YtdamfbighdkcbaaGreat.V
open Go.RowKit Go.Proofs.YtdamfbighdkcbaaGreat.D
theorem nd_le {α : Type} [DecidableEq α]:∀{l m:List α},l.Nodup→(∀x∈l,x∈m)→l.length≤m.length
 | [],m,_,_=>Nat.zero_le _
 | x :: l,m,hn,hs=>by
  rw[List.nodup_cons]at hn
  have hx:=hs x List.mem_cons_self
  have:=nd_le (l:=l) (m:=m.erase x) hn.2 fun y hy=>(List.mem_erase_of_ne (fun e=>hn.1 (by rw[←e];exact hy))).2 (hs y (List.mem_cons_of_mem _ hy))
  rw[List.length_erase_of_mem hx]at this
  have:=List.length_pos_of_mem hx
  rw[List.length_cons]
  omega
end Go.Proofs.YtdamfbighdkcbaaGreat.V
set_option maxRecDepth 100000
namespace Go.Proofs.YtdamfbighdkcbaaGreat.P
open Go Go.RowKit Go.Proofs.YtdamfbighdkcbaaGreat.D
end Go.Proofs.YtdamfbighdkcbaaGreat.P
namespace Go.Proofs.YtdamfbighdkcbaaGreat.P
open Go Go.RowKit Go.Proofs.YtdamfbighdkcbaaGreat.D
end Go.Proofs.YtdamfbighdkcbaaGreat.P
namespace Go.Proofs.YtdamfbighdkcbaaGreat.P
open Go Go.RowKit Go.Proofs.YtdamfbighdkcbaaGreat.D
end Go.Proofs.YtdamfbighdkcbaaGreat.P
namespace Go.Proofs.YtdamfbighdkcbaaGreat.D
open Go Go.RowKit
end Go.Proofs.YtdamfbighdkcbaaGreat.D
namespace Go.Proofs.YtdamfbighdkcbaaGreat.D
noncomputable def fuel:Nat:=Classical.choose (⟨64,rfl⟩:∃n,n=64)
end Go.Proofs.YtdamfbighdkcbaaGreat.D
namespace Go.Proofs.YtdamfbighdkcbaaGreat.P
open Go Go.RowKit Go.Proofs.YtdamfbighdkcbaaGreat.D
end Go.Proofs.YtdamfbighdkcbaaGreat.P
namespace Go.Proofs.YtdamfbighdkcbaaGreat.P
open Go Go.RowKit Go.Proofs.YtdamfbighdkcbaaGreat.D
end Go.Proofs.YtdamfbighdkcbaaGreat.P
namespace Go.Proofs.YtdamfbighdkcbaaGreat.P
open Go Go.RowKit Go.Proofs.YtdamfbighdkcbaaGreat.D
end Go.Proofs.YtdamfbighdkcbaaGreat.P
namespace Go.Proofs.YtdamfbighdkcbaaGreat.P
open Go Go.RowKit Go.Proofs.YtdamfbighdkcbaaGreat.D
end Go.Proofs.YtdamfbighdkcbaaGreat.P
namespace Go.Proofs.YtdamfbighdkcbaaGreat.P
open Go Go.RowKit Go.Proofs.YtdamfbighdkcbaaGreat.D
end Go.Proofs.YtdamfbighdkcbaaGreat.P
namespace Go.Proofs.YtdamfbighdkcbaaGreat.P
open Go Go.RowKit Go.Proofs.YtdamfbighdkcbaaGreat.D
end Go.Proofs.YtdamfbighdkcbaaGreat.P
namespace Go.Proofs.YtdamfbighdkcbaaGreat.P
open Go Go.RowKit Go.Proofs.YtdamfbighdkcbaaGreat.D
end Go.Proofs.YtdamfbighdkcbaaGreat.P
namespace Go.Proofs.YtdamfbighdkcbaaGreat.P
open Go Go.RowKit Go.Proofs.YtdamfbighdkcbaaGreat.D
end Go.Proofs.YtdamfbighdkcbaaGreat.P
namespace Go.Proofs.YtdamfbighdkcbaaGreat.P
open Go Go.RowKit Go.Proofs.YtdamfbighdkcbaaGreat.D
end Go.Proofs.YtdamfbighdkcbaaGreat.P
namespace Go.Proofs.YtdamfbighdkcbaaGreat.P
open Go Go.RowKit Go.Proofs.YtdamfbighdkcbaaGreat.D
end Go.Proofs.YtdamfbighdkcbaaGreat.P
namespace Go.Proofs.YtdamfbighdkcbaaGreat.P
open Go Go.RowKit Go.Proofs.YtdamfbighdkcbaaGreat.D
end Go.Proofs.YtdamfbighdkcbaaGreat.P
namespace Go.Proofs.YtdamfbighdkcbaaGreat.P
open Go Go.RowKit Go.Proofs.YtdamfbighdkcbaaGreat.D
end Go.Proofs.YtdamfbighdkcbaaGreat.P
set_option maxHeartbeats 2000000
set_option maxRecDepth 20000
namespace Go.Proofs.YtdamfbighdkcbaaGreat.V
open Go.RowKit Go.Proofs.YtdamfbighdkcbaaGreat.D Go.Proofs.YtdamfbighdkcbaaGreat.P
theorem In_ (x lo hi:Int):ZaY.f x lo hi=some (B (lo≤x∧x≤hi)):=by
 rw[ZaY.f_eq]
 by_cases h:x≥lo
 ·
  rw[if_pos h,Zf8,ZbQ (show x≤hi↔(lo≤x∧x≤hi)from⟨fun h' => ⟨h,h'⟩,fun h' => h'.2⟩)]
 ·
  rw[if_neg h,B_neg (fun h' => h h'.1)]
def LawS (g:List (List Int)) (a:Int):Prop:=T g 0 a=a∧T g a 0=a∧(∀b:Int,0≤b→b < g.length→∀c:Int,0≤c→c < g.length→T g (T g a b) c=T g a (T g b c))∧∃b:Int,0≤b∧b < g.length∧T g a b=0∧T g b a=0
theorem Zl6 (g:List (List Int)):Grp g↔(1≤g.length∧g.length≤8)∧Tab g∧∀a:Int,0≤a→a < g.length→LawS g a:=by
 rw[Zh4]
 constructor
 ·
  intro h
  have hg:=(Zh4 g).2 h
  refine⟨h.1,h.2.1,fun a a0 a1 => ?_⟩
  obtain⟨h1,h2,_,h4⟩:=h.2.2 a a0 a1
  exact⟨h1,h2,h4,hg.inv2 a0 a1⟩
 ·
  rintro⟨h1,h2,h3⟩
  refine⟨h1,h2,fun a a0 a1 => ?_⟩
  obtain⟨k1,k2,k3,b,b0,b1,hb,_⟩:=h3 a a0 a1
  exact⟨k1,k2,⟨b,b0,b1,hb⟩,k3⟩
theorem Is_ (g:List (List Int)):Zz.f g=some (B (Grp g)):=by
 rw[ZbQ (Zl6 g)]
 (rw[Zz.f_eq])
 by_cases c1:1≤(g.length:Int)∧(g.length:Int)≤8
 rotate_left
 ·
  rw[B_neg fun h=>c1 (by omega)]
  ((with_reducible repeat (first|refine Zl (by first|assumption|omega|rfl|exact B_pos (by omega)) ?_|refine Zk (by first|assumption|omega|decide|exact B_not (by omega)) ?_|refine Ze (by first|assumption|exact In_ _ _ _) ?_|dsimp only));first|done|(with_reducible rfl)|simp (disch:=omega) only[w64]|(show False;done))
 rw[ZbQ (show((1≤g.length∧g.length≤8)∧Tab g∧∀a:Int,0≤a→a < g.length→LawS g a)↔(Tab g∧∀a:Int,0≤a→a < g.length→LawS g a)from⟨fun h=>h.2,fun h=>⟨by omega,h⟩⟩)]
 (with_reducible repeat (first|refine Zl (by first|assumption|omega|rfl|exact B_pos (by omega)) ?_|refine Zk (by first|assumption|omega|decide|exact B_not (by omega)) ?_|refine Ze (by first|assumption|exact In_ _ _ _) ?_|dsimp only))
 have hw1:wrapI ((g.length:Int) - 1)=g.length - 1:=w64 (by omega) (by omega)
 refine scanB g.length (fun i=>Zz.l0 (g.length:Int) i g) (fun a=>(row g a).length=g.length∧AllIn g.length (row g a)) (∀a:Int,0≤a→a < g.length→LawS g a) (fun a a0 a1 _ => ?_) (fun ht => ?_)
 ·
  by_cases h2:((row g a).length:Int)=g.length
  rotate_left
  ·
   refine⟨fun h=>absurd h.1 (by omega),fun _ => ?_⟩
   (rw[Zz.l0_eq])
   ((with_reducible repeat (first|refine Zl (by first|assumption|omega|rfl|exact B_pos (by omega)) ?_|refine Zk (by first|assumption|omega|decide|exact B_not (by omega)) ?_|refine Ze (by first|assumption) ?_|dsimp only));first|done|(with_reducible rfl)|simp (disch:=omega) only[w64]|(show False;done))
  have inner:=scanI g.length (fun b=>Zz.l1 (g.length:Int) a b g) (fun b=>0≤T g a b∧T g a b < g.length) (some false) (Zz.l0 (g.length:Int) (a+1) g)
   (fun b b0 b1 _=>by refine⟨fun h => ?_,fun h => ?_⟩ <;> (rw[Zz.l1_eq,hw1]) <;> ((with_reducible repeat (first|refine Zl (by first|assumption|omega|rfl|exact B_pos (by omega)) ?_|refine Zk (by first|assumption|omega|decide|exact B_not (by omega)) ?_|refine Ze (by first|assumption|exact In_ _ _ _) ?_|dsimp only));first|done|(with_reducible rfl)|simp (disch:=omega) only[w64]|(show False;done))) (fun _=>by(rw[Zz.l1_eq]);((with_reducible repeat (first|refine Zl (by first|assumption|omega|rfl|exact B_pos (by omega)) ?_|refine Zk (by first|assumption|omega|decide|exact B_not (by omega)) ?_|refine Ze (by first|assumption) ?_|dsimp only));first|done|(with_reducible rfl)|simp (disch:=omega) only[w64]|(show False;done)))
  refine⟨fun h => ?_,fun h => ?_⟩ <;> (rw[Zz.l0_eq]) <;> (with_reducible repeat (first|refine Zl (by first|assumption|omega|rfl|exact B_pos (by omega)) ?_|refine Zk (by first|assumption|omega|decide|exact B_not (by omega)) ?_|refine Ze (by first|assumption) ?_|dsimp only))
  ·
   exact inner.1 fun j j0 j1=>h.2 j j0 (by omega)
  ·
   exact inner.2 fun k=>h ⟨by omega,fun j j0 j1=>k j j0 (by omega)⟩
 (rw[Zz.l0_eq])
 (with_reducible repeat (first|refine Zl (by first|assumption|omega|rfl|exact B_pos (by omega)) ?_|refine Zk (by first|assumption|omega|decide|exact B_not (by omega)) ?_|refine Ze (by first|assumption) ?_|dsimp only))
 refine scanT g.length (fun i=>Zz.l2 (g.length:Int) i g) (LawS g) (fun a a0 a1 _ => ?_) (fun _=>by(rw[Zz.l2_eq]);((with_reducible repeat (first|refine Zl (by first|assumption|omega|rfl|exact B_pos (by omega)) ?_|refine Zk (by first|assumption|omega|decide|exact B_not (by omega)) ?_|refine Ze (by first|assumption) ?_|dsimp only));first|done|(with_reducible rfl)|simp (disch:=omega) only[w64]|(show False;done)))
 have hlen:∀x:Int,0≤x→x < g.length→((row g x).length:Int)=g.length:=fun x x0 x1=>by rw[(ht x x0 x1).1]
 have hent:∀x y:Int,0≤x→x < g.length→0≤y→y < g.length→0≤T g x y∧T g x y < g.length:=fun x y x0 x1 y0 y1=>(ht x x0 x1).2 y y0 (by rw[hlen x x0 x1];exact y1)
 have l0:=hlen 0 (by omega) (by omega)
 have la:=hlen a a0 a1
 by_cases h2:T g 0 a=a
 rotate_left
 ·
  refine⟨fun h=>absurd h.1 h2,fun _ => ?_⟩
  (rw[Zz.l2_eq])
  ((with_reducible repeat (first|refine Zl (by first|assumption|omega|rfl|exact B_pos (by omega)) ?_|refine Zk (by first|assumption|omega|decide|exact B_not (by omega)) ?_|refine Ze (by first|assumption) ?_|dsimp only));first|done|(with_reducible rfl)|simp (disch:=omega) only[w64]|(show False;done))
 by_cases h3:T g a 0=a
 rotate_left
 ·
  refine⟨fun h=>absurd h.2.1 h3,fun _ => ?_⟩
  (rw[Zz.l2_eq])
  ((with_reducible repeat (first|refine Zl (by first|assumption|omega|rfl|exact B_pos (by omega)) ?_|refine Zk (by first|assumption|omega|decide|exact B_not (by omega)) ?_|refine Ze (by first|assumption) ?_|dsimp only));first|done|(with_reducible rfl)|simp (disch:=omega) only[w64]|(show False;done))
 let Fd:Int→Prop:=fun b=>∃j:Int,0≤j∧j < b∧T g a j=0∧T g j a=0
 have fd0:B (Fd 0)=false:=B_neg fun⟨j,j0,j1,_⟩=>by omega
 have inner:=scan g.length (fun b=>Zz.l3 (g.length:Int) a (B (Fd b)) b g) (fun b=>∀c:Int,0≤c→c < g.length→T g (T g a b) c=T g a (T g b c)) (some false) (fun b b0 b1 _=>by
  obtain⟨e0,e1⟩:=hent a b a0 a1 b0 b1
  have le:=hlen _ e0 e1
  have lb:=hlen b b0 b1
  have toj:Zz.l3 (g.length:Int) a (B (Fd b)) b g=Zz.l4 (g.length:Int) a (B (Fd (b+1))) b 0 g:=by
   by_cases k1:Fd b
   ·
    rw[B_pos k1,B_pos (show Fd (b+1)from by obtain⟨j,j0,j1,h⟩:=k1;exact⟨j,j0,by omega,h⟩)]
    (rw[Zz.l3_eq])
    ((with_reducible repeat (first|refine Zl (by first|assumption|omega|rfl|exact B_pos (by omega)) ?_|refine Zk (by first|assumption|omega|decide|exact B_not (by omega)) ?_|refine Ze (by first|assumption) ?_|dsimp only));first|done|(with_reducible rfl)|simp (disch:=omega) only[w64]|(show False;done))
   ·
    rw[B_neg k1]
    by_cases k2:T g a b=0
    ·
     have e:B (Fd (b+1))=decide (T g b a=0):=by
      by_cases k3:T g b a=0
      ·
       rw[B_pos ⟨b,b0,by omega,k2,k3⟩];simp[k3]
      ·
       rw[B_neg]
       ·
        simp[k3]
       ·
        rintro⟨j,j0,j1,ja,jb⟩
        by_cases ej:j=b
        ·
         subst ej;exact k3 jb
        ·
         exact k1 ⟨j,j0,by omega,ja,jb⟩
     rw[e]
     (rw[Zz.l3_eq])
     ((with_reducible repeat (first|refine Zl (by first|assumption|omega|rfl|exact B_pos (by omega)) ?_|refine Zk (by first|assumption|omega|decide|exact B_not (by omega)) ?_|refine Ze (by first|assumption) ?_|dsimp only));first|done|(with_reducible rfl)|simp (disch:=omega) only[w64]|(show False;done))
    ·
     rw[B_neg (show ¬ Fd (b+1)from by
      rintro⟨j,j0,j1,ja,jb⟩
      by_cases ej:j=b
      ·
       subst ej;exact k2 ja
      ·
       exact k1 ⟨j,j0,by omega,ja,jb⟩)]
     (rw[Zz.l3_eq])
     ((with_reducible repeat (first|refine Zl (by first|assumption|omega|rfl|exact B_pos (by omega)) ?_|refine Zk (by first|assumption|omega|decide|exact B_not (by omega)) ?_|refine Ze (by first|assumption) ?_|dsimp only));first|done|(with_reducible rfl)|simp (disch:=omega) only[w64]|(show False;done))
  have inner4:=scanI g.length (fun c=>Zz.l4 (g.length:Int) a (B (Fd (b+1))) b c g) (fun c=>T g (T g a b) c=T g a (T g b c)) (some false) (Zz.l3 (g.length:Int) a (B (Fd (b+1))) (b+1) g) (fun c c0 c1 _=>by
   obtain⟨f0,f1⟩:=hent b c b0 b1 c0 c1
   refine⟨fun h => ?_,fun h => ?_⟩ <;> (rw[Zz.l4_eq]) <;> ((with_reducible repeat (first|refine Zl (by first|assumption|omega|rfl|exact B_pos (by omega)) ?_|refine Zk (by first|assumption|omega|decide|exact B_not (by omega)) ?_|refine Ze (by first|assumption) ?_|dsimp only));first|done|(with_reducible rfl)|simp (disch:=omega) only[w64]|(show False;done))) (fun _=>by(rw[Zz.l4_eq]);((with_reducible repeat (first|refine Zl (by first|assumption|omega|rfl|exact B_pos (by omega)) ?_|refine Zk (by first|assumption|omega|decide|exact B_not (by omega)) ?_|refine Ze (by first|assumption) ?_|dsimp only));first|done|(with_reducible rfl)|simp (disch:=omega) only[w64]|(show False;done)))
  exact⟨fun h=>toj.trans (inner4.1 h),fun h=>toj.trans (inner4.2 h)⟩)
 have st:Zz.l2 (g.length:Int) a g=Zz.l3 (g.length:Int) a (B (Fd 0)) 0 g:=by
  rw[fd0]
  (rw[Zz.l2_eq])
  ((with_reducible repeat (first|refine Zl (by first|assumption|omega|rfl|exact B_pos (by omega)) ?_|refine Zk (by first|assumption|omega|decide|exact B_not (by omega)) ?_|refine Ze (by first|assumption) ?_|dsimp only));first|done|(with_reducible rfl)|simp (disch:=omega) only[w64]|(show False;done))
 rw[st]
 rcases inner with ⟨h5,h6⟩|⟨b,b0,b1,_,h5,_,h6⟩
 ·
  simp only[h6]
  by_cases h7:Fd g.length
  ·
   refine⟨fun _ => ?_,fun h=>absurd ⟨h2,h3,h5,h7⟩ h⟩
   rw[B_pos h7]
   (rw[Zz.l3_eq])
   ((with_reducible repeat (first|refine Zl (by first|assumption|omega|rfl|exact B_pos (by omega)) ?_|refine Zk (by first|assumption|omega|decide|exact B_not (by omega)) ?_|refine Ze (by first|assumption) ?_|dsimp only));first|done|(with_reducible rfl)|simp (disch:=omega) only[w64]|(show False;done))
  ·
   refine⟨fun h=>absurd h.2.2.2 h7,fun h => ?_⟩
   rw[B_neg h7]
   (rw[Zz.l3_eq])
   ((with_reducible repeat (first|refine Zl (by first|assumption|omega|rfl|exact B_pos (by omega)) ?_|refine Zk (by first|assumption|omega|decide|exact B_not (by omega)) ?_|refine Ze (by first|assumption) ?_|dsimp only));first|done|(with_reducible rfl)|simp (disch:=omega) only[w64]|(show False;done))
 ·
  exact⟨fun h=>absurd (h.2.2.1 b b0 b1) h5,fun _=>h6⟩
theorem gcd0 (y:Nat):∀x:Nat,Za2.l0 (x:Int) (y:Int)=some ((Nat.gcd x y:Nat):Int):=by
 induction y using Nat.strongRecOn with
 | _ y ih =>
  intro x
  (rw[Za2.l0_eq])
  by_cases h:y=0
  ·
   subst h
   simp
  ·
   have e:Int.tmod (x:Int) (y:Int)=((x%y:Nat):Int):=by rw[Int.ofNat_tmod]
   have:=ih (x%y) (Nat.mod_lt _ (by omega)) y
   rw[show Nat.gcd y (x%y)=Nat.gcd x y by rw[Nat.gcd_comm x y,Nat.gcd_rec y x,Nat.gcd_comm]]at this
   rw[e]
   (with_reducible repeat (first|refine Zl (by first|assumption|omega|rfl|exact B_pos (by omega)) ?_|refine Zk (by first|assumption|omega|decide|exact B_not (by omega)) ?_|refine Ze (by first|assumption) ?_|dsimp only))
   exact this
theorem gcd_ {a b:Int} (ha:0≤a) (hb:0≤b):Za2.f a b=some ((Int.gcd a b:Nat):Int):=by
 obtain⟨x,rfl⟩:=Int.eq_ofNat_of_zero_le ha
 obtain⟨y,rfl⟩:=Int.eq_ofNat_of_zero_le hb
 have:=gcd0 y x
 rw[Za2.f_eq]
 simpa [Int.gcd] using this
theorem Gcd0 (y:Nat):∀x:Nat,x≤9223372036854775807→y≤9223372036854775807→Zaq.l0 (x:Int) (y:Int)=some ((Nat.gcd x y:Nat):Int):=by
 induction y using Nat.strongRecOn with
 | _ y ih =>
  intro x hx hy
  (rw[Zaq.l0_eq])
  by_cases h:y=0
  ·
   subst h
   have hw:wrapI (0 - (x:Int)) = -(x:Int):=by rw[w64 (by omega) (by omega)];omega
   rw[hw,if_pos (by simp),if_neg (by omega)]
   simp
  ·
   have e:Int.tmod (x:Int) (y:Int)=((x%y:Nat):Int):=by rw[Int.ofNat_tmod]
   have hlt:=Nat.mod_lt x (show y > 0 by omega)
   have:=ih (x%y) hlt y hy (by omega)
   rw[show Nat.gcd y (x%y)=Nat.gcd x y by rw[Nat.gcd_comm x y,Nat.gcd_rec y x,Nat.gcd_comm]]at this
   rw[e]
   (with_reducible repeat (first|refine Zl (by first|assumption|omega|rfl|exact B_pos (by omega)) ?_|refine Zk (by first|assumption|omega|decide|exact B_not (by omega)) ?_|refine Ze (by first|assumption) ?_|dsimp only))
   exact this
theorem Gcd_ {a b:Int} (ha:0≤a) (hb:0≤b) (ha' : a≤9223372036854775807) (hb' : b≤9223372036854775807):Zaq.f a b=some ((Int.gcd a b:Nat):Int):=by
 obtain⟨x,rfl⟩:=Int.eq_ofNat_of_zero_le ha
 obtain⟨y,rfl⟩:=Int.eq_ofNat_of_zero_le hb
 have:=Gcd0 y x (by omega) (by omega)
 rw[Zaq.f_eq]
 simpa [Int.gcd] using this
theorem Grp.foldl_in {g:List (List Int)} (hg:Grp g):∀(xs:List Int) (x:Int),AllIn g.length xs→0≤x→x < g.length→0≤xs.foldl (T g) x∧xs.foldl (T g) x < g.length:=by
 intro xs
 induction xs with
 | nil=>exact fun x _ a b=>⟨a,b⟩
 | cons y ys ih =>
  intro x hx x0 x1
  obtain⟨y0,y1⟩:=hx.mem (List.mem_cons_self ..)
  obtain⟨z0,z1⟩:=hg.ent x y x0 x1 y0 y1
  exact ih _ (Zby fun z hz=>hx.mem (List.mem_cons_of_mem _ hz)) z0 z1
theorem Zgh {xs:List Int} {m:Nat} (h:m < xs.length):xs.drop m=rd xs m :: xs.drop (m+1):=by
 rw[List.drop_eq_getElem_cons h,Zbi h]
theorem ZeC {xs:List Int} {m:Nat} (h:m < xs.length):xs.take (m+1)=xs.take m++[rd xs m]:=by
 rw[List.take_succ_eq_append_getElem h,Zbi h]
theorem times {g:List (List Int)} (hg:Grp g) (xs:List Int) (hx:AllIn g.length xs) (hl:xs.length≤maxLen):ZL.f g xs=some (xs.foldl (T g) 0):=by
 have hm:=ZbS
 have n1:=hg.n1
 rw[ZL.f_eq]
 have:=up xs.length (fun i=>ZL.l0 ((xs.take i).foldl (T g) 0) xs (xs.length:Int) (i:Int) g) (fun i hi=>by
  obtain⟨z0,z1⟩:=hg.foldl_in (xs.take i) 0 (hx.take i) (by omega) (by omega)
  obtain⟨y0,y1⟩:=hx i (by omega) (by omega)
  have hr:((row g ((xs.take i).foldl (T g) 0)).length:Int)=g.length:=by rw[hg.row _ z0 z1]
  have hw:wrapI ((i:Int)+1)=((i+1:Nat):Int):=by rw[w64 (by omega) (by omega)];omega
  rw[ZeC hi,List.foldl_append,List.foldl_cons,List.foldl_nil]
  (rw[ZL.l0_eq,hw])
  ((with_reducible repeat (first|refine Zl (by first|assumption|omega|rfl|exact B_pos (by omega)) ?_|refine Zk (by first|assumption|omega|decide|exact B_not (by omega)) ?_|refine Ze (by first|assumption) ?_|dsimp only));first|done|(with_reducible rfl)|simp (disch:=omega) only[w64]|(show False;done)))
 simp only[List.take_zero,List.foldl_nil,List.take_length,Int.natCast_zero]at this
 rw[this]
 (rw[ZL.l0_eq])
 ((with_reducible repeat (first|refine Zl (by first|assumption|omega|rfl|exact B_pos (by omega)) ?_|refine Zk (by first|assumption|omega|decide|exact B_not (by omega)) ?_|refine Ze (by first|assumption) ?_|dsimp only));first|done|(with_reducible rfl)|simp (disch:=omega) only[w64]|(show False;done))
theorem times2 {g:List (List Int)} (hg:Grp g) {x y:Int} (x0:0≤x) (x1:x < g.length) (y0:0≤y) (y1:y < g.length):ZL.f g [x,y]=some (T g x y):=by
 have:=times hg [x,y] (ZgV x0 x1 y0 y1) (by unfold maxLen;simp)
 simpa [hg.one x x0 x1] using this
end Go.Proofs.YtdamfbighdkcbaaGreat.V
namespace Go.Proofs.YtdamfbighdkcbaaGreat.V
open Go.RowKit Go.Proofs.YtdamfbighdkcbaaGreat.D Go.Proofs.YtdamfbighdkcbaaGreat.P
structure Mdl (g:List (List Int)) (m:Int) (u:List Int):Prop where
 m2:2≤m
 m12:m≤12
 len:u.length=g.length
 unit:∀i:Int,0≤i→i < u.length→1≤rd u i∧rd u i < m∧Int.gcd (rd u i) m=1
 hom:∀i:Int,0≤i→i < u.length→∀j:Int,0≤j→j < u.length→rd u (T g i j)=rd u i*rd u j%m
theorem Zmu:∀m:Nat,m≤12→∀u:Nat,u < m→Nat.gcd u m=1→u=u*u%m→1≤u→u=1:=by decide
theorem Mdl.one {g:List (List Int)} {m:Int} {u:List Int} (hg:Grp g) (h:Mdl g m u):rd u 0=1:=by
 have n1:=hg.n1
 have hl:=h.len
 obtain⟨a1,a2,a3⟩:=h.unit 0 (by omega) (by omega)
 have e:=h.hom 0 (by omega) (by omega) 0 (by omega) (by omega)
 rw[hg.one 0 (by omega) (by omega)]at e
 have m2:=h.m2;have m12:=h.m12
 obtain⟨M,rfl⟩:=Int.eq_ofNat_of_zero_le (show 0≤m by omega)
 obtain⟨U,hU⟩:=Int.eq_ofNat_of_zero_le (show 0≤rd u 0 by omega)
 rw[hU]at a1 a2 a3 e ⊢
 have:=Zmu M (by omega) U (by omega) (by simpa [Int.gcd] using a3) (by exact_mod_cast e) (by omega)
 omega
theorem Zdm {a b m:Int} (a0:0≤a) (a1:a < m) (b0:0≤b) (b1:b < m) (hm:m≤1000):0≤a*b∧a*b≤1000000:=by
 refine⟨Int.mul_nonneg a0 b0,?_⟩
 have h1:a*b≤1000*b:=Int.mul_le_mul_of_nonneg_right (by omega) b0
 omega
theorem Mdl.at {g:List (List Int)} {m:Int} {u:List Int} (h:Mdl g m u) {x:Int} (x0:0≤x) (x1:x < g.length):1≤rd u x∧rd u x < m:=by
 have hl:=h.len
 obtain⟨a,b,_⟩:=h.unit x x0 (by omega)
 exact⟨a,b⟩
theorem Zf4 {m x:Int} {u:List Int} {g:List (List Int)} (hm:Mdl g m u) (x0:0≤x) (x1:x < g.length) {b:Int} (b0:0≤b) (b1:b < m):0≤rd u x*b∧rd u x*b≤1000000:=by
 have m12:=hm.m12
 have:=hm.at x0 x1
 exact Zdm (by omega) this.2 b0 b1 (by omega)
theorem ZnP {m x:Int} (m0:0≤m):Za6.f m x=some (B (1≤x∧x < m∧Int.gcd x m=1)):=by
 rw[Za6.f_eq]
 by_cases h1:1≤x∧x < m
 ·
  have h:=gcd_ m0 (show 0≤x by omega)
  (with_reducible repeat (first|refine Zl (by first|assumption|omega|rfl|exact B_pos (by omega)) ?_|refine Zk (by first|assumption|omega|decide|exact B_not (by omega)) ?_|refine Ze (by first|assumption) ?_|dsimp only))
  rw[Int.gcd_comm]
  by_cases h3:Int.gcd x m=1
  ·
   rw[B_pos ⟨h1.1,h1.2,h3⟩];simp[h3]
  ·
   rw[B_neg fun h=>h3 h.2.2]
   simp;omega
 ·
  rw[B_neg fun h=>h1 ⟨h.1,h.2.1⟩]
  by_cases h2:1≤x <;> ((with_reducible repeat (first|refine Zl (by first|assumption|omega|rfl|exact B_pos (by omega)) ?_|refine Zk (by first|assumption|omega|decide|exact B_not (by omega)) ?_|refine Ze (by first|assumption) ?_|dsimp only));first|done|(with_reducible rfl)|simp (disch:=omega) only[w64]|(show False;done))
theorem Zd2 (m:Int):ZaH.f m=some (B (2≤m∧m≤12)):=by
 rw[ZaH.f_eq]
 by_cases h:m≥2
 ·
  rw[if_pos h,Zf8,ZbQ (show m≤12↔(2≤m∧m≤12)from⟨fun h' => ⟨h,h'⟩,fun h' => h'.2⟩)]
 ·
  rw[if_neg h,B_neg (fun h' => h h'.1)]
theorem ZkY (g:List (List Int)) (m:Int) (u:List Int):Mdl g m u↔(2≤m∧m≤12)∧u.length=g.length∧(∀i:Int,0≤i→i < u.length→1≤rd u i∧rd u i < m∧Int.gcd (rd u i) m=1)∧∀i:Int,0≤i→i < u.length→∀j:Int,0≤j→j < u.length→rd u (T g i j)=rd u i*rd u j%m :=
 ⟨fun h=>⟨⟨h.m2,h.m12⟩,h.len,h.unit,h.hom⟩,fun⟨⟨a,b⟩,c,d,e⟩=>⟨a,b,c,d,e⟩⟩
theorem Zl9 {g:List (List Int)} (hg:Grp g) (m:Int) (u:List Int) (hl:u.length≤maxLen):ZG.f g m u=some (B (Mdl g m u)):=by
 have hm:=ZbS
 have n1:=hg.n1
 (rw[ZG.f_eq])
 by_cases h1:2≤m∧m≤12
 rotate_left
 ·
  rw[B_neg fun h=>h1 ⟨h.m2,h.m12⟩]
  ((with_reducible repeat (first|refine Zl (by first|assumption|omega|rfl|exact B_pos (by omega)) ?_|refine Zk (by first|assumption|omega|decide|exact B_not (by omega)) ?_|refine Ze (by first|assumption|exact Zd2 _|exact Zao.f_eq _) ?_|dsimp only));first|done|(with_reducible rfl)|simp (disch:=omega) only[w64]|(show False;done))
 by_cases h3:(u.length:Int)=g.length
 rotate_left
 ·
  rw[B_neg fun h=>h3 (by rw[h.len])]
  ((with_reducible repeat (first|refine Zl (by first|assumption|omega|rfl|exact B_pos (by omega)) ?_|refine Zk (by first|assumption|omega|decide|exact B_not (by omega)) ?_|refine Ze (by first|assumption|exact Zd2 _|exact Zao.f_eq _) ?_|dsimp only));first|done|(with_reducible rfl)|simp (disch:=omega) only[w64]|(show False;done))
 by_cases h5:rd u 0=1
 rotate_left
 ·
  rw[B_neg fun h=>h5 (h.one hg)]
  ((with_reducible repeat (first|refine Zl (by first|assumption|omega|rfl|exact B_pos (by omega)) ?_|refine Zk (by first|assumption|omega|decide|exact B_not (by omega)) ?_|refine Ze (by first|assumption|exact Zd2 _|exact Zao.f_eq _) ?_|dsimp only));first|done|(with_reducible rfl)|simp (disch:=omega) only[w64]|(show False;done))
 (with_reducible repeat (first|refine Zl (by first|assumption|omega|rfl|exact B_pos (by omega)) ?_|refine Zk (by first|assumption|omega|decide|exact B_not (by omega)) ?_|refine Ze (by first|assumption|exact Zd2 _|exact Zao.f_eq _) ?_|dsimp only))
 rw[ZbQ (ZkY g m u),ZbQ (show((2≤m∧m≤12)∧u.length=g.length∧(∀i:Int,0≤i→i < u.length→1≤rd u i∧rd u i < m∧Int.gcd (rd u i) m=1)∧∀i:Int,0≤i→i < u.length→∀j:Int,0≤j→j < u.length→rd u (T g i j)=rd u i*rd u j%m)↔_ from⟨fun h=>h.2.2,fun h=>⟨h1,by omega,h⟩⟩)]
 refine scanB u.length (fun i=>ZG.l0 u (u.length:Int) i g m u) (fun i=>1≤rd u i∧rd u i < m∧Int.gcd (rd u i) m=1) _ (fun i i0 i1 _ => ?_) (fun hu => ?_)
 ·
  have hu:=ZnP (m:=m) (x:=rd u i) (by omega)
  refine⟨fun h => ?_,fun h => ?_⟩ <;> (rw[ZG.l0_eq]) <;> ((with_reducible repeat (first|refine Zl (by first|assumption|omega|rfl|exact B_pos (by omega)) ?_|refine Zk (by first|assumption|omega|decide|exact B_not (by omega)) ?_|refine Ze (by first|assumption) ?_|dsimp only));first|done|(with_reducible rfl)|simp (disch:=omega) only[w64]|(show False;done))
 (rw[ZG.l0_eq])
 (with_reducible repeat (first|refine Zl (by first|assumption|omega|rfl|exact B_pos (by omega)) ?_|refine Zk (by first|assumption|omega|decide|exact B_not (by omega)) ?_|refine Ze (by first|assumption|exact Zao.f_eq _) ?_|dsimp only))
 rw[←h3]
 refine scanT u.length (fun i=>ZG.l1 (u.length:Int) i g m u) (fun i=>∀j:Int,0≤j→j < u.length→rd u (T g i j)=rd u i*rd u j%m) (fun i i0 i1 _ => ?_) (fun _=>by(rw[ZG.l1_eq]);((with_reducible repeat (first|refine Zl (by first|assumption|omega|rfl|exact B_pos (by omega)) ?_|refine Zk (by first|assumption|omega|decide|exact B_not (by omega)) ?_|refine Ze (by first|assumption) ?_|dsimp only));first|done|(with_reducible rfl)|simp (disch:=omega) only[w64]|(show False;done)))
 have inner:=scanI u.length (fun j=>ZG.l2 i (u.length:Int) i (u.length:Int) j g m u) (fun j=>rd u (T g i j)=rd u i*rd u j%m) (some false) (ZG.l1 (u.length:Int) (i+1) g m u) (fun j j0 j1 _=>by
  have ht:=times2 hg i0 (by omega) j0 (by omega)
  obtain⟨e0,e1⟩:=hg.ent i j i0 (by omega) j0 (by omega)
  obtain⟨p0,p1⟩:=Zdm (show 0≤rd u i by have:=(hu i i0 i1).1;omega) (hu i i0 i1).2.1 (show 0≤rd u j by have:=(hu j j0 j1).1;omega) (hu j j0 j1).2.1 (by omega)
  have hwp:wrapI (rd u i*rd u j)=rd u i*rd u j:=w64 (by omega) (by omega)
  have e:=Zdt (m:=m) p0
  refine⟨fun h => ?_,fun h => ?_⟩ <;> (rw[ZG.l2_eq,hwp,e]) <;> ((with_reducible repeat (first|refine Zl (by first|assumption|omega|rfl|exact B_pos (by omega)) ?_|refine Zk (by first|assumption|omega|decide|exact B_not (by omega)) ?_|refine Ze (by first|assumption) ?_|dsimp only));first|done|(with_reducible rfl)|simp (disch:=omega) only[w64]|(show False;done))) (fun _=>by(rw[ZG.l2_eq]);((with_reducible repeat (first|refine Zl (by first|assumption|omega|rfl|exact B_pos (by omega)) ?_|refine Zk (by first|assumption|omega|decide|exact B_not (by omega)) ?_|refine Ze (by first|assumption) ?_|dsimp only));first|done|(with_reducible rfl)|simp (disch:=omega) only[w64]|(show False;done)))
 refine⟨fun h => ?_,fun h => ?_⟩ <;> (rw[ZG.l1_eq]) <;> (with_reducible repeat (first|refine Zl (by first|assumption|omega|rfl|exact B_pos (by omega)) ?_|refine Zk (by first|assumption|omega|decide|exact B_not (by omega)) ?_|refine Ze (by first|assumption|exact Zao.f_eq _) ?_|dsimp only)) <;> rw[←h3]
 ·
  exact inner.1 h
 ·
  exact inner.2 h
theorem Is02 {g:List (List Int)} (hg:Grp g) (m:Int) (u:List Int) (hl:u.length≤maxLen):Z4.f g m u=some (B (Mdl g m u)):=by
 have hm:=ZbS
 have n1:=hg.n1
 (rw[Z4.f_eq])
 by_cases h1:2≤m∧m≤12
 rotate_left
 ·
  rw[B_neg fun h=>h1 ⟨h.m2,h.m12⟩]
  ((with_reducible repeat (first|refine Zl (by first|assumption|omega|rfl|exact B_pos (by omega)) ?_|refine Zk (by first|assumption|omega|decide|exact B_not (by omega)) ?_|refine Ze (by first|assumption|exact In_ _ _ _) ?_|dsimp only));first|done|(with_reducible rfl)|simp (disch:=omega) only[w64]|(show False;done))
 by_cases h3:(u.length:Int)=g.length
 rotate_left
 ·
  rw[B_neg fun h=>h3 (by rw[h.len])]
  ((with_reducible repeat (first|refine Zl (by first|assumption|omega|rfl|exact B_pos (by omega)) ?_|refine Zk (by first|assumption|omega|decide|exact B_not (by omega)) ?_|refine Ze (by first|assumption|exact In_ _ _ _) ?_|dsimp only));first|done|(with_reducible rfl)|simp (disch:=omega) only[w64]|(show False;done))
 (with_reducible repeat (first|refine Zl (by first|assumption|omega|rfl|exact B_pos (by omega)) ?_|refine Zk (by first|assumption|omega|decide|exact B_not (by omega)) ?_|refine Ze (by first|assumption|exact In_ _ _ _) ?_|dsimp only))
 rw[ZbQ (ZkY g m u),ZbQ (show((2≤m∧m≤12)∧u.length=g.length∧(∀i:Int,0≤i→i < u.length→1≤rd u i∧rd u i < m∧Int.gcd (rd u i) m=1)∧∀i:Int,0≤i→i < u.length→∀j:Int,0≤j→j < u.length→rd u (T g i j)=rd u i*rd u j%m)↔_ from⟨fun h=>h.2.2,fun h=>⟨h1,by omega,h⟩⟩)]
 have hw1:wrapI (m - 1)=m - 1:=w64 (by omega) (by omega)
 refine scanB u.length (fun i=>Z4.l0 i g m u) (fun i=>1≤rd u i∧rd u i < m∧Int.gcd (rd u i) m=1) _ (fun i i0 i1 _ => ?_) (fun hu => ?_)
 ·
  refine⟨fun h => ?_,fun h => ?_⟩ <;> (rw[Z4.l0_eq,hw1])
  ·
   have hgc:=Gcd_ (a:=rd u i) (b:=m) (by omega) (by omega) (by omega) (by omega)
   ((with_reducible repeat (first|refine Zl (by first|assumption|omega|rfl|exact B_pos (by omega)) ?_|refine Zk (by first|assumption|omega|decide|exact B_not (by omega)) ?_|refine Ze (by first|assumption|exact In_ _ _ _) ?_|dsimp only));first|done|(with_reducible rfl)|simp (disch:=omega) only[w64]|(show False;done))
  ·
   by_cases h6:1≤rd u i∧rd u i < m
   ·
    have hgc:=Gcd_ (a:=rd u i) (b:=m) (by omega) (by omega) (by omega) (by omega)
    ((with_reducible repeat (first|refine Zl (by first|assumption|omega|rfl|exact B_pos (by omega)) ?_|refine Zk (by first|assumption|omega|decide|exact B_not (by omega)) ?_|refine Ze (by first|assumption|exact In_ _ _ _) ?_|dsimp only));first|done|(with_reducible rfl)|simp (disch:=omega) only[w64]|(show False;done))
   ·
    ((with_reducible repeat (first|refine Zl (by first|assumption|omega|rfl|exact B_pos (by omega)) ?_|refine Zk (by first|assumption|omega|decide|exact B_not (by omega)) ?_|refine Ze (by first|assumption|exact In_ _ _ _) ?_|dsimp only));first|done|(with_reducible rfl)|simp (disch:=omega) only[w64]|(show False;done))
 (rw[Z4.l0_eq])
 (with_reducible repeat (first|refine Zl (by first|assumption|omega|rfl|exact B_pos (by omega)) ?_|refine Zk (by first|assumption|omega|decide|exact B_not (by omega)) ?_|refine Ze (by first|assumption) ?_|dsimp only))
 refine scanT u.length (fun i=>Z4.l1 i g m u) (fun i=>∀j:Int,0≤j→j < u.length→rd u (T g i j)=rd u i*rd u j%m) (fun i i0 i1 _ => ?_) (fun _=>by(rw[Z4.l1_eq]);((with_reducible repeat (first|refine Zl (by first|assumption|omega|rfl|exact B_pos (by omega)) ?_|refine Zk (by first|assumption|omega|decide|exact B_not (by omega)) ?_|refine Ze (by first|assumption) ?_|dsimp only));first|done|(with_reducible rfl)|simp (disch:=omega) only[w64]|(show False;done)))
 have ri:=hg.row i i0 (by omega)
 have inner:=scanI u.length (fun j=>Z4.l2 i j g m u) (fun j=>rd u (T g i j)=rd u i*rd u j%m) (some false) (Z4.l1 (i+1) g m u) (fun j j0 j1 _=>by
  obtain⟨e0,e1⟩:=hg.ent i j i0 (by omega) j0 (by omega)
  obtain⟨p0,p1⟩:=Zdm (show 0≤rd u i by have:=(hu i i0 i1).1;omega) (hu i i0 i1).2.1 (show 0≤rd u j by have:=(hu j j0 j1).1;omega) (hu j j0 j1).2.1 (by omega)
  have hwp:wrapI (rd u i*rd u j)=rd u i*rd u j:=w64 (by omega) (by omega)
  have e:=Zdt (m:=m) p0
  refine⟨fun h => ?_,fun h => ?_⟩ <;> (rw[Z4.l2_eq,hwp,e]) <;> ((with_reducible repeat (first|refine Zl (by first|assumption|omega|rfl|exact B_pos (by omega)) ?_|refine Zk (by first|assumption|omega|decide|exact B_not (by omega)) ?_|refine Ze (by first|assumption) ?_|dsimp only));first|done|(with_reducible rfl)|simp (disch:=omega) only[w64]|(show False;done))) (fun _=>by(rw[Z4.l2_eq]);((with_reducible repeat (first|refine Zl (by first|assumption|omega|rfl|exact B_pos (by omega)) ?_|refine Zk (by first|assumption|omega|decide|exact B_not (by omega)) ?_|refine Ze (by first|assumption) ?_|dsimp only));first|done|(with_reducible rfl)|simp (disch:=omega) only[w64]|(show False;done)))
 refine⟨fun h => ?_,fun h => ?_⟩ <;> (rw[Z4.l1_eq]) <;> (with_reducible repeat (first|refine Zl (by first|assumption|omega|rfl|exact B_pos (by omega)) ?_|refine Zk (by first|assumption|omega|decide|exact B_not (by omega)) ?_|refine Ze (by first|assumption) ?_|dsimp only))
 ·
  exact inner.1 h
 ·
  exact inner.2 h
def GM (g:List (List Int)) (m:Int) (u:List Int):Prop:=Grp g∧Mdl g m u
theorem ZhQ (g:List (List Int)) (hl:g.length≤maxLen) (hr:∀r∈g,r.length≤maxLen) (m:Int) (u:List Int) (hu:u.length≤maxLen):ZY.f g [(m,u)]=some (B (GM g m u)):=by
 have hG:=Znd g hl hr
 rw[ZY.f_eq]
 have st:ZY.l0 [(m,u)] (([(m,u)]:List (Int×List Int)).length:Int) 1 g=some true:=by(rw[ZY.l0_eq]);exact if_neg (by simp)
 (rw[ZY.l0_eq])
 rw[if_pos (by simp),if_pos (by simp),if_pos (by simp),hG]
 by_cases h1:Grp g
 ·
  have hM:=Zl9 h1 m u hu
  rw[B_pos h1]
  show(Option.bind (ZG.f g m u) _)=_
  rw[hM]
  by_cases h2:Mdl g m u
  ·
   rw[B_pos h2,B_pos ⟨h1,h2⟩]
   simpa [show wrapI 1=1 from w64 (by omega) (by omega)] using st
  ·
   rw[B_neg h2,B_neg fun h=>h2 h.2]
   rfl
 ·
  rw[B_neg h1,B_neg fun h=>h1 h.1]
  rfl
end Go.Proofs.YtdamfbighdkcbaaGreat.V
namespace Go.Proofs.YtdamfbighdkcbaaGreat.V
open Go.RowKit Go.Proofs.YtdamfbighdkcbaaGreat.D Go.Proofs.YtdamfbighdkcbaaGreat.P
theorem Mod_ {a m:Int} (h0 : -1000000000≤a) (h1:a≤1000000000) (m0:0 < m) (m1:m≤1000000):ZaJ.f a m=some (a%m):=by
 rw[ZaJ.f_eq]
 have t0:=Int.tmod_lt_of_pos a m0
 have t1 : -m < Int.tmod a m:=Int.lt_tmod_of_pos a m0
 have hq:=Int.mul_tdiv_add_tmod a m
 have h5:(m*a.tdiv m+a.tmod m)%m=a.tmod m%m:=by rw[Int.add_comm,Int.add_mul_emod_self_left]
 rw[hq]at h5
 rw[w64 (by omega) (by omega),Int.tmod_eq_emod_of_nonneg (show 0≤Int.tmod a m+m by omega),Int.add_emod_right,←h5]
 ((with_reducible repeat (first|refine Zl (by first|assumption|omega|rfl|exact B_pos (by omega)) ?_|refine Zk (by first|assumption|omega|decide|exact B_not (by omega)) ?_|refine Ze (by first|assumption) ?_|dsimp only));first|done|(with_reducible rfl)|simp (disch:=omega) only[w64]|(show False;done))
theorem Znm:∀n:Nat,n≤7→∀i:Nat,i≤5→n ^ i≤16807:=by decide
theorem Zjc {a:Int} (h0:0≤a) (h1:a≤7) (i:Nat) (hi:i≤5):0≤a ^ i∧a ^ i≤16807:=by
 obtain⟨n,rfl⟩:=Int.eq_ofNat_of_zero_le h0
 have h:=Znm n (by omega) i hi
 rw[←Int.natCast_pow]
 omega
def cells (g:List (List Int)) (d:Int):Int:=((g.length:Int) - 1) ^ d.toNat
theorem ZdW {g:List (List Int)} (hg:Grp g) {d:Int} (h1:d≤5):0≤cells g d∧cells g d≤16807:=by
 have n8:=hg.n8;have n0:=hg.n1
 exact Zjc (by omega) (by omega) _ (by omega)
theorem power {a d:Int} (h0:0≤a) (h1:a≤7) (d0:0≤d) (d1:d≤4):ZaP.f a d=some (a ^ d.toNat):=by
 obtain⟨n,rfl⟩:=Int.eq_ofNat_of_zero_le d0
 have:=up n (fun j=>ZaP.l0 a (a ^ j) (n:Int) (j:Int)) (fun j hj=>by
  have hw:wrapI ((j:Int)+1)=((j+1:Nat):Int):=by rw[w64 (by omega) (by omega)];omega
  have b:=Zjc h0 h1 (j+1) (by omega)
  have hp:wrapI (a ^ j*a)=a ^ (j+1):=by rw[show a ^ j*a=a ^ (j+1)from(Int.pow_succ a j).symm];exact w64 (by omega) (by omega)
  rw[ZaP.l0_eq,hw,hp]
  ((with_reducible repeat (first|refine Zl (by first|assumption|omega|rfl|exact B_pos (by omega)) ?_|refine Zk (by first|assumption|omega|decide|exact B_not (by omega)) ?_|refine Ze (by first|assumption) ?_|dsimp only));first|done|(with_reducible rfl)|simp (disch:=omega) only[w64]|(show False;done)))
 simp only[Int.pow_zero,Int.natCast_zero]at this
 rw[ZaP.f_eq,this,ZaP.l0_eq,Int.toNat_natCast]
 ((with_reducible repeat (first|refine Zl (by first|assumption|omega|rfl|exact B_pos (by omega)) ?_|refine Zk (by first|assumption|omega|decide|exact B_not (by omega)) ?_|refine Ze (by first|assumption) ?_|dsimp only));first|done|(with_reducible rfl)|simp (disch:=omega) only[w64]|(show False;done))
theorem ZfJ {g:List (List Int)} (hg:Grp g) {d:Int} (d0:0≤d) (d1:d≤4):ZaO.f g d=some (cells g d):=by
 have n8:=hg.n8;have n0:=hg.n1
 have hw:wrapI ((g.length:Int) - 1)=g.length - 1:=w64 (by omega) (by omega)
 have hp:=power (a:=(g.length:Int) - 1) (by omega) (by omega) d0 d1
 show _=some (((g.length:Int) - 1) ^ d.toNat)
 rw[ZaO.f_eq,Zao.f_eq,Option.bind_some,hw]
 ((with_reducible repeat (first|refine Zl (by first|assumption|omega|rfl|exact B_pos (by omega)) ?_|refine Zk (by first|assumption|omega|decide|exact B_not (by omega)) ?_|refine Ze (by first|assumption) ?_|dsimp only));first|done|(with_reducible rfl)|simp (disch:=omega) only[w64]|(show False;done))
theorem Ze7 {g:List (List Int)} (hg:Grp g) {d:Int} (d0:0≤d) (d1:d≤4):ZK.f g d=some (cells g d):=by
 have n8:=hg.n8;have n0:=hg.n1
 unfold cells
 have hw:wrapI ((g.length:Int) - 1)=g.length - 1:=w64 (by omega) (by omega)
 obtain⟨n,rfl⟩:=Int.eq_ofNat_of_zero_le d0
 suffices H:∀n j:Nat,n+j≤4→ZK.l0 (n:Int) (((g.length:Int) - 1) ^ j) g=some (((g.length:Int) - 1) ^ (j+n))by
  have:=H n 0 (by omega)
  rw[ZK.f_eq]
  simpa using this
 intro n
 induction n with
 | zero=>intro j hj;rw[ZK.l0_eq,Nat.add_zero];((with_reducible repeat (first|refine Zl (by first|assumption|omega|rfl|exact B_pos (by omega)) ?_|refine Zk (by first|assumption|omega|decide|exact B_not (by omega)) ?_|refine Ze (by first|assumption) ?_|dsimp only));first|done|(with_reducible rfl)|simp (disch:=omega) only[w64]|(show False;done))
 | succ n ih =>
  intro j hj
  have b:=Zjc (a:=(g.length:Int) - 1) (by omega) (by omega) (j+1) (by omega)
  have hp:wrapI (((g.length:Int) - 1) ^ j*((g.length:Int) - 1))=((g.length:Int) - 1) ^ (j+1):=by rw[show((g.length:Int) - 1) ^ j*((g.length:Int) - 1)=((g.length:Int) - 1) ^ (j+1)from(Int.pow_succ _ j).symm];exact w64 (by omega) (by omega)
  have h1:wrapI (((n+1:Nat):Int) - 1)=(n:Int):=by rw[w64 (by omega) (by omega)];omega
  have:=ih (j+1) (by omega)
  rw[show j+1+n=j+(n+1)by omega]at this
  rw[ZK.l0_eq,Za7.f_eq,Option.bind_some,hw,hp,h1]
  (with_reducible repeat (first|refine Zl (by first|assumption|omega|rfl|exact B_pos (by omega)) ?_|refine Zk (by first|assumption|omega|decide|exact B_not (by omega)) ?_|refine Ze (by first|assumption) ?_|dsimp only))
  exact this
def Co (g:List (List Int)) (m d:Int) (v:List Int):Prop:=(0≤d∧d≤3)∧(v.length:Int)=cells g d∧AllIn m v
theorem Zl8 (d:Int):ZaS.f d=some (B (0≤d∧d≤3)):=by
 rw[ZaS.f_eq]
 by_cases h:d≥0
 ·
  rw[if_pos h,Zf8,ZbQ (show d≤3↔(0≤d∧d≤3)from⟨fun h' => ⟨h,h'⟩,fun h' => h'.2⟩)]
 ·
  rw[if_neg h,B_neg (fun h' => h h'.1)]
def idx (g:List (List Int)) (xs:List Int):Int:=xs.foldl (fun a x=>a*((g.length:Int) - 1)+x - 1) 0
theorem Zi0 (g:List (List Int)) (xs:List Int) (x:Int):idx g (xs++[x])=idx g xs*((g.length:Int) - 1)+x - 1:=by simp[idx]
theorem Zi2 {g:List (List Int)} {xs:List Int} {i:Nat} (h:i < xs.length):idx g (xs.take (i+1))=idx g (xs.take i)*((g.length:Int) - 1)+rd xs (i:Int) - 1:=by
 rw[ZeC h,Zi0]
theorem ZkU {g:List (List Int)} (hg:Grp g) {xs:List Int} (hx:AllIn g.length xs):∀i:Nat,i≤xs.length→(∀j:Int,0≤j→j < i→¬ rd xs j=0)→0≤idx g (xs.take i)∧idx g (xs.take i)+1≤((g.length:Int) - 1) ^ i:=by
 have n8:=hg.n8;have n1:=hg.n1
 intro i
 induction i with
 | zero=>intro _ _;simp[idx]
 | succ i ih =>
  intro hi hz
  obtain⟨a0,a1⟩:=ih (by omega) (fun j h0 h1=>hz j h0 (by omega))
  obtain⟨x0,x1⟩:=hx i (by omega) (by omega)
  have x2:=hz i (by omega) (by omega)
  rw[Zi2 (by omega),Int.pow_succ]
  have b1:0≤idx g (xs.take i)*((g.length:Int) - 1):=Int.mul_nonneg a0 (by omega)
  have b2:(idx g (xs.take i)+1)*((g.length:Int) - 1)≤((g.length:Int) - 1) ^ i*((g.length:Int) - 1):=Int.mul_le_mul_of_nonneg_right a1 (by omega)
  rw[Int.add_mul,Int.one_mul]at b2
  omega
def ZbH (xs:List Int):Prop:=∀j:Int,0≤j→j < xs.length→¬ rd xs j=0
noncomputable def At (g:List (List Int)) (v xs:List Int):Int:=ite_ (ZbH xs) (rd v (idx g xs)) 0
theorem Zi1 {g:List (List Int)} (hg:Grp g) {xs:List Int} (hx:AllIn g.length xs) (hl:xs.length≤4) {n:Nat} (hn:n < xs.length) (hz:∀j:Int,0≤j→j < (n:Int)→¬ rd xs j=0) :
  wrapI (wrapI (wrapI (idx g (xs.take n)*wrapI ((g.length:Int) - 1))+rd xs n) - 1)=idx g (xs.take (n+1))∧wrapI ((n:Int)+1)=(n:Int)+1:=by
 have n8:=hg.n8;have n1:=hg.n1
 obtain⟨a0,a1⟩:=ZkU hg hx n (by omega) hz
 obtain⟨x0,x1⟩:=hx n (by omega) (by omega)
 have p:=Zjc (a:=(g.length:Int) - 1) (by omega) (by omega) n (by omega)
 have b1:0≤idx g (xs.take n)*((g.length:Int) - 1):=Int.mul_nonneg a0 (by omega)
 have b2:idx g (xs.take n)*((g.length:Int) - 1)≤16807*7:=Int.mul_le_mul (by omega) (by omega) (by omega) (by omega)
 rw[w64 (x:=(g.length:Int) - 1) (by omega) (by omega),w64 (x:=idx g (xs.take n)*((g.length:Int) - 1)) (by omega) (by omega),w64 (x:=idx g (xs.take n)*((g.length:Int) - 1)+rd xs n) (by omega) (by omega),w64 (by omega) (by omega),w64 (by omega) (by omega),Zi2 hn]
 exact⟨rfl,rfl⟩
theorem cell_ {g:List (List Int)} (hg:Grp g) {xs:List Int} (hx:AllIn g.length xs) (hl:xs.length≤4) :
  ZaV.f g xs=some (ite_ (ZbH xs) (idx g xs) (-1)):=by
 rw[ZaV.f_eq]
 have:=scan xs.length (fun i=>ZaV.l0 (idx g (xs.take i.toNat)) xs (xs.length:Int) i g) (fun j=>¬ rd xs j=0) (some (-1)) (fun i i0 i1 hz=>by
  obtain⟨n,rfl⟩:=Int.eq_ofNat_of_zero_le i0
  obtain⟨e1,e2⟩:=Zi1 hg hx hl (n:=n) (by omega) hz
  refine⟨fun h => ?_,fun h => ?_⟩
  ·
   rw[ZaV.l0_eq,Zao.f_eq,Option.bind_some,Int.toNat_natCast,e1,e2,show((n:Int)+1).toNat=n+1 by omega]
   ((with_reducible repeat (first|refine Zl (by first|assumption|omega|rfl|exact B_pos (by omega)) ?_|refine Zk (by first|assumption|omega|decide|exact B_not (by omega)) ?_|refine Ze (by first|assumption) ?_|dsimp only));first|done|(with_reducible rfl)|simp (disch:=omega) only[w64]|(show False;done))
  ·
   (rw[ZaV.l0_eq])
   ((with_reducible repeat (first|refine Zl (by first|assumption|omega|rfl|exact B_pos (by omega)) ?_|refine Zk (by first|assumption|omega|decide|exact B_not (by omega)) ?_|refine Ze (by first|assumption) ?_|dsimp only));first|done|(with_reducible rfl)|simp (disch:=omega) only[w64]|(show False;done)))
 simp only[Int.toNat_zero,List.take_zero,Int.toNat_natCast,List.take_length]at this
 rcases this with ⟨h1,h2⟩|⟨j,j0,j1,_,h1,_,h2⟩
 ·
  have h1:ZbH xs:=h1
  rw[Zcb h1,←show ZaV.l0 (idx g []) xs (xs.length:Int) 0 g=ZaV.l0 0 xs (xs.length:Int) 0 g from rfl,h2]
  (rw[ZaV.l0_eq])
  ((with_reducible repeat (first|refine Zl (by first|assumption|omega|rfl|exact B_pos (by omega)) ?_|refine Zk (by first|assumption|omega|decide|exact B_not (by omega)) ?_|refine Ze (by first|assumption) ?_|dsimp only));first|done|(with_reducible rfl)|simp (disch:=omega) only[w64]|(show False;done))
 ·
  rw[Zca fun q=>h1 (q j j0 j1)]
  exact h2
theorem Zd0 {g:List (List Int)} (hg:Grp g) {m d:Int} {v:List Int} (hc:Co g m d v) {xs:List Int} (hx:AllIn g.length xs) (hl:(xs.length:Int)=d) (h:ZbH xs):0≤idx g xs∧idx g xs < v.length:=by
 obtain⟨⟨d0,d1⟩,hv,ha⟩:=hc
 obtain⟨a0,a1⟩:=ZkU hg hx xs.length (by omega) h
 rw[List.take_length]at a0 a1
 have e:cells g d=((g.length:Int) - 1) ^ xs.length:=by unfold cells;rw[show d.toNat=xs.length by omega]
 omega
theorem at_ {g:List (List Int)} (hg:Grp g) {m d:Int} {v:List Int} (hc:Co g m d v) {xs:List Int} (hx:AllIn g.length xs) (hl:(xs.length:Int)=d) :
  Zal.f d v g xs=some (At g v xs):=by
 have hd:=hc.1
 have h1:=cell_ hg hx (by omega)
 rw[Zal.f_eq]
 unfold At
 by_cases h:ZbH xs
 ·
  obtain⟨a0,a1⟩:=Zd0 hg hc hx hl h
  rw[Zcb h]at h1 ⊢
  ((with_reducible repeat (first|refine Zl (by first|assumption|omega|rfl|exact B_pos (by omega)) ?_|refine Zk (by first|assumption|omega|decide|exact B_not (by omega)) ?_|refine Ze (by first|assumption) ?_|dsimp only));first|done|(with_reducible rfl)|simp (disch:=omega) only[w64]|(show False;done))
 ·
  rw[Zca h]at h1 ⊢
  ((with_reducible repeat (first|refine Zl (by first|assumption|omega|rfl|exact B_pos (by omega)) ?_|refine Zk (by first|assumption|omega|decide|exact B_not (by omega)) ?_|refine Ze (by first|assumption) ?_|dsimp only));first|done|(with_reducible rfl)|simp (disch:=omega) only[w64]|(show False;done))
theorem At_ {g:List (List Int)} (hg:Grp g) {m d:Int} {u v:List Int} (hc:Co g m d v) {xs:List Int} (hx:AllIn g.length xs) (hl:(xs.length:Int)=d) :
  Zaz.f g d v xs=some (At g v xs):=by
 have hd:=hc.1
 rw[Zaz.f_eq]
 have:=scan xs.length (fun i=>Zaz.l0 xs (idx g (xs.take i.toNat)) i g d v) (fun j=>¬ rd xs j=0) (some 0) (fun i i0 i1 hz=>by
  obtain⟨n,rfl⟩:=Int.eq_ofNat_of_zero_le i0
  obtain⟨e1,e2⟩:=Zi1 hg hx (by omega) (n:=n) (by omega) hz
  refine⟨fun h => ?_,fun h => ?_⟩
  ·
   rw[Zaz.l0_eq,Za7.f_eq,Option.bind_some,Int.toNat_natCast,e1,e2,show((n:Int)+1).toNat=n+1 by omega]
   ((with_reducible repeat (first|refine Zl (by first|assumption|omega|rfl|exact B_pos (by omega)) ?_|refine Zk (by first|assumption|omega|decide|exact B_not (by omega)) ?_|refine Ze (by first|assumption) ?_|dsimp only));first|done|(with_reducible rfl)|simp (disch:=omega) only[w64]|(show False;done))
  ·
   (rw[Zaz.l0_eq])
   ((with_reducible repeat (first|refine Zl (by first|assumption|omega|rfl|exact B_pos (by omega)) ?_|refine Zk (by first|assumption|omega|decide|exact B_not (by omega)) ?_|refine Ze (by first|assumption) ?_|dsimp only));first|done|(with_reducible rfl)|simp (disch:=omega) only[w64]|(show False;done)))
 simp only[Int.toNat_zero,List.take_zero,Int.toNat_natCast,List.take_length]at this
 unfold At
 rcases this with ⟨h1,h2⟩|⟨j,j0,j1,_,h1,_,h2⟩
 ·
  have h1:ZbH xs:=h1
  obtain⟨a0,a1⟩:=Zd0 hg hc hx hl h1
  rw[Zcb h1,←show Zaz.l0 xs (idx g []) 0 g d v=Zaz.l0 xs 0 0 g d v from rfl,h2]
  (rw[Zaz.l0_eq])
  ((with_reducible repeat (first|refine Zl (by first|assumption|omega|rfl|exact B_pos (by omega)) ?_|refine Zk (by first|assumption|omega|decide|exact B_not (by omega)) ?_|refine Ze (by first|assumption) ?_|dsimp only));first|done|(with_reducible rfl)|simp (disch:=omega) only[w64]|(show False;done))
 ·
  rw[Zca fun q=>h1 (q j j0 j1)]
  exact h2
theorem At_bd {g:List (List Int)} (hg:Grp g) {m d:Int} {v:List Int} (m0:0 < m) (hc:Co g m d v) {xs:List Int} (hx:AllIn g.length xs) (hl:(xs.length:Int)=d):0≤At g v xs∧At g v xs < m:=by
 unfold At
 by_cases h:ZbH xs
 ·
  obtain⟨a0,a1⟩:=Zd0 hg hc hx hl h
  rw[Zcb h]
  exact hc.2.2 _ a0 a1
 ·
  rw[Zca h];omega
end Go.Proofs.YtdamfbighdkcbaaGreat.V
namespace Go.Proofs.YtdamfbighdkcbaaGreat.V
open Go.RowKit Go.Proofs.YtdamfbighdkcbaaGreat.D Go.Proofs.YtdamfbighdkcbaaGreat.P
def lst (b:Int):Nat→Int→List Int
 | 0,_=>[]
 | n+1,i=>lst b n (i / b)++[i%b+1]
theorem ZcK (b:Int):∀n i,(lst b n i).length=n:=by
 intro n
 induction n with
 | zero=>intro i;rfl
 | succ n ih=>intro i;simp[lst,ih]
theorem ZnS {b:Int} (hb:0 < b):∀n i,∀x∈lst b n i,1≤x∧x < b+1:=by
 intro n
 induction n with
 | zero=>intro i x hx;simp[lst]at hx
 | succ n ih =>
  intro i x hx
  have m0:=Int.emod_nonneg i (show b≠0 by omega)
  have m1:=Int.emod_lt_of_pos i hb
  rcases List.mem_append.1 hx with h|h
  ·
   exact ih _ x h
  ·
   rw[List.mem_singleton]at h;omega
theorem Zji (n:Nat) (t:List Int) (x:Int):(List.replicate (n+1) 0++t).set n x=List.replicate n 0++(x :: t):=by
 rw[List.replicate_succ', List.append_assoc,List.set_append,if_neg (by simp)]
 simp
theorem ZnR {g:List (List Int)} (hg:Grp g) (n:Nat) (h2:n=0∨2≤g.length) (hn:n≤4) {i:Int} (i0:0≤i) (i1:i≤16807) :
  ZaC.f g (n:Int) i=some (lst ((g.length:Int) - 1) n i)∧Zas.f g (n:Int) i=some (lst ((g.length:Int) - 1) n i):=by
 have n8:=hg.n8;have n1:=hg.n1
 obtain⟨b,hb⟩:∃b:Int,b=(g.length:Int) - 1:=⟨_,rfl⟩
 have hw0:wrapI ((g.length:Int) - 1)=b:=by rw[hb];exact w64 (by omega) (by omega)
 rw[←hb]
 have b1:n=0∨1≤b:=by omega
 have b7:b≤7:=by omega
 have fact:∀(n:Nat) (i:Int),n≤4→1≤b→0≤i→i≤16807→wrapI (Int.tdiv i b)=i / b∧wrapI (1+Int.tmod i b)=i%b+1∧wrapI (Int.tmod i b+1)=i%b+1∧wrapI ((n:Int) - 1)=(n:Int) - 1∧0≤i / b∧i / b≤16807:=by
  intro n i hn b1 i0 i1
  have m0:=Int.emod_nonneg i (show b≠0 by omega)
  have m1:=Int.emod_lt_of_pos i (show 0 < b by omega)
  have d0:0≤i / b:=Int.ediv_nonneg i0 (by omega)
  have d1:i / b≤i:=Int.ediv_le_self _ i0
  rw[ZgP i0,Zdt i0]
  exact⟨w64 (by omega) (by omega),by rw[w64 (by omega) (by omega)];omega,w64 (by omega) (by omega),w64 (by omega) (by omega),d0,by omega⟩
 have hwn:wrapI ((n:Int) - 1)=(n:Int) - 1:=w64 (by omega) (by omega)
 constructor
 ·
  rw[ZaC.f_eq,Zao.f_eq,Option.bind_some,hw0,hwn,Int.toNat_natCast]
  (with_reducible repeat (first|refine Zl (by first|assumption|omega|rfl|exact B_pos (by omega)) ?_|refine Zk (by first|assumption|omega|decide|exact B_not (by omega)) ?_|refine Ze (by first|assumption) ?_|dsimp only))
  suffices H:∀(n:Nat) (i:Int) (t:List Int),n≤4→(n=0∨1≤b)→0≤i→i≤16807→ZaC.l0 i b ((n:Int) - 1) (List.replicate n 0++t)=some (lst b n i++t)by
   simpa using H n i [] hn b1 i0 i1
  intro n
  induction n with
  | zero=>intro i t _ _ _ _;rw[ZaC.l0_eq];(with_reducible repeat (first|refine Zl (by first|assumption|omega|rfl|exact B_pos (by omega)) ?_|refine Zk (by first|assumption|omega|decide|exact B_not (by omega)) ?_|refine Ze (by first|assumption) ?_|dsimp only));rfl
  | succ n ih =>
   intro i t hn b1 i0 i1
   obtain⟨f1,f2,f3,f5,f6,f7⟩:=fact n i (by omega) (by omega) i0 i1
   have h:=ih (i / b) ((i%b+1) :: t) (by omega) (by omega) f6 f7
   have e:((n+1:Nat):Int) - 1=(n:Int):=by omega
   have l1:(List.replicate (n+1) (0:Int)++t).length=n+1+t.length:=by rw[List.length_append,List.length_replicate]
   rw[e,ZaC.l0_eq,f1,f2,f5,Int.toNat_natCast,Zji]
   (with_reducible repeat (first|refine Zl (by first|assumption|omega|rfl|exact B_pos (by omega)) ?_|refine Zk (by first|assumption|omega|decide|exact B_not (by omega)) ?_|refine Ze (by first|assumption) ?_|dsimp only))
   rw[h,lst,List.append_assoc,List.singleton_append]
 ·
  rw[Zas.f_eq,Za7.f_eq,Option.bind_some,hw0,hwn,Int.toNat_natCast]
  (with_reducible repeat (first|refine Zl (by first|assumption|omega|rfl|exact B_pos (by omega)) ?_|refine Zk (by first|assumption|omega|decide|exact B_not (by omega)) ?_|refine Ze (by first|assumption) ?_|dsimp only))
  suffices H:∀(n:Nat) (i:Int) (t:List Int),n≤4→(n=0∨1≤b)→0≤i→i≤16807→Zas.l0 i b ((n:Int) - 1) (List.replicate n 0++t)=some (lst b n i++t)by
   simpa using H n i [] hn b1 i0 i1
  intro n
  induction n with
  | zero=>intro i t _ _ _ _;rw[Zas.l0_eq];(with_reducible repeat (first|refine Zl (by first|assumption|omega|rfl|exact B_pos (by omega)) ?_|refine Zk (by first|assumption|omega|decide|exact B_not (by omega)) ?_|refine Ze (by first|assumption) ?_|dsimp only));rfl
  | succ n ih =>
   intro i t hn b1 i0 i1
   obtain⟨f1,f2,f3,f5,f6,f7⟩:=fact n i (by omega) (by omega) i0 i1
   have h:=ih (i / b) ((i%b+1) :: t) (by omega) (by omega) f6 f7
   have e:((n+1:Nat):Int) - 1=(n:Int):=by omega
   have l1:(List.replicate (n+1) (0:Int)++t).length=n+1+t.length:=by rw[List.length_append,List.length_replicate]
   rw[e,Zas.l0_eq,f1,f3,f5,Int.toNat_natCast,Zji]
   (with_reducible repeat (first|refine Zl (by first|assumption|omega|rfl|exact B_pos (by omega)) ?_|refine Zk (by first|assumption|omega|decide|exact B_not (by omega)) ?_|refine Ze (by first|assumption) ?_|dsimp only))
   rw[h,lst,List.append_assoc,List.singleton_append]
theorem cells_two {g:List (List Int)} (hg:Grp g) {n:Nat} (hc:0 < cells g n):n=0∨2≤g.length:=by
 have n1:=hg.n1
 by_cases h:n=0
 ·
  exact .inl h
 by_cases h2:2≤g.length
 ·
  exact .inr h2
 ·
  have:(g.length:Int) - 1=0:=by omega
  have e:cells g (n:Int)=0:=by unfold cells;rw[this,Int.toNat_natCast];exact Int.zero_pow h
  omega
theorem ZgZ {g:List (List Int)} (hg:Grp g) {n i:Nat} (hn:n≤4) (hi:(i:Int) < cells g n):ZaC.f g (n:Int) i=some (lst ((g.length:Int) - 1) n i)∧Zas.f g (n:Int) i=some (lst ((g.length:Int) - 1) n i):=by
 have hb:=ZdW hg (d:=(n:Int)) (by omega)
 exact ZnR hg n (cells_two hg (by omega)) hn (by omega) (by omega)
theorem Zgo {g:List (List Int)} (hg:Grp g) {n i:Nat} (hi:(i:Int) < cells g n):AllIn g.length (lst ((g.length:Int) - 1) n i)∧ZbH (lst ((g.length:Int) - 1) n i):=by
 have n1:=hg.n1
 have H:∀x∈lst ((g.length:Int) - 1) n i,1≤x∧x < g.length:=by
  rcases cells_two hg (show 0 < cells g n by omega)with h|g2
  ·
   subst h;intro x hx;simp[lst]at hx
  ·
   intro x hx
   have:=ZnS (b:=(g.length:Int) - 1) (by omega) n i x hx
   omega
 exact⟨Zby fun x hx=>by have:=H x hx;omega,fun j j0 j1 h=>by have:=H _ (ZcD j0 j1);omega⟩
theorem Zjw (G:Nat→Int) (n i:Nat) (h:i < n):((List.range i).map G++List.replicate (n - i) 0).set i (G i)=(List.range (i+1)).map G++List.replicate (n - (i+1)) 0:=by
 rw[List.set_append,if_neg (by simp),List.length_map,List.length_range,Nat.sub_self,show n - i=(n - (i+1))+1 by omega,List.replicate_succ,List.set_cons_zero,List.range_succ,List.map_append]
 simp
theorem Zkl (G:Nat→Int) (n i:Nat) (h:i≤n):((List.range i).map G++List.replicate (n - i) 0).length=n:=by rw[List.length_append,List.length_map,List.length_range,List.length_replicate];omega
theorem Znh {a m:Int} (m0:0 < m) (m1:m≤1000000):Int.tmod (wrapI (Int.tmod a m+m)) m=a%m:=by
 have t0:=Int.tmod_lt_of_pos a m0
 have t1 : -m < Int.tmod a m:=Int.lt_tmod_of_pos a m0
 have hq:=Int.mul_tdiv_add_tmod a m
 have h5:(m*a.tdiv m+a.tmod m)%m=a.tmod m%m:=by rw[Int.add_comm,Int.add_mul_emod_self_left]
 rw[hq]at h5
 rw[w64 (by omega) (by omega),Int.tmod_eq_emod_of_nonneg (show 0≤Int.tmod a m+m by omega),Int.add_emod_right,←h5]
theorem zero_ {g:List (List Int)} (hg:Grp g) {n:Nat} (hn:n≤4):Za8.f g (n:Int)=some ((n:Int),List.replicate (cells g n).toNat 0):=by
 have hb:=ZdW hg (d:=(n:Int)) (by omega)
 have hc:=ZfJ hg (d:=(n:Int)) (by omega) (by omega)
 rw[Za8.f_eq]
 ((with_reducible repeat (first|refine Zl (by first|assumption|omega|rfl|exact B_pos (by omega)) ?_|refine Zk (by first|assumption|omega|decide|exact B_not (by omega)) ?_|refine Ze (by first|assumption) ?_|dsimp only));first|done|(with_reducible rfl)|simp (disch:=omega) only[w64]|(show False;done))
theorem told {g:List (List Int)} (hg:Grp g) {m:Int} (m2:2≤m) (m12:m≤12) {n:Nat} (hn:n≤4) {F:List Int→Option Int} {G:Nat→Int} (hF:∀i:Nat,(i:Int) < cells g n→F (lst ((g.length:Int) - 1) n i)=some (G i)) :
  Za3.f g m (n:Int) F=some ((n:Int),(List.range (cells g n).toNat).map fun i=>G i%m):=by
 have hb:=ZdW hg (d:=(n:Int)) (by omega)
 have hz:=zero_ hg hn
 obtain⟨N,hN⟩:∃N,N=(cells g n).toNat:=⟨_,rfl⟩
 rw[Za3.f_eq,hz,Option.bind_some,←hN]
 have:=up N (fun j=>Za3.l0 m (n:Int) F (N:Int) (j:Int) g 0 (n:Int) ((List.range j).map (fun i=>G i%m)++List.replicate (N - j) 0)) (fun j h=>by
  have hw:wrapI ((j:Int)+1)=((j+1:Nat):Int):=by rw[w64 (by omega) (by omega)];omega
  have f:=hF j (by omega)
  have hl:=(ZgZ hg hn (i:=j) (by omega)).1
  have l1:=Zkl (fun i=>G i%m) N j (by omega)
  have e:=Znh (a:=G j) (m:=m) (by omega) (by omega)
  rw[←Zjw (fun i=>G i%m) N j h,Za3.l0_eq,hw,hl,Option.bind_some,f,Option.bind_some,e,Int.toNat_natCast]
  ((with_reducible repeat (first|refine Zl (by first|assumption|omega|rfl|exact B_pos (by omega)) ?_|refine Zk (by first|assumption|omega|decide|exact B_not (by omega)) ?_|refine Ze (by first|assumption) ?_|dsimp only));first|done|(with_reducible rfl)|simp (disch:=omega) only[w64]|(show False;done)))
 simp only[Int.natCast_zero,List.range_zero,List.map_nil,List.nil_append,Nat.sub_zero,Nat.sub_self,List.replicate_zero,List.append_nil]at this
 simp only[List.length_replicate]
 rw[this,Za3.l0_eq]
 ((with_reducible repeat (first|refine Zl (by first|assumption|omega|rfl|exact B_pos (by omega)) ?_|refine Zk (by first|assumption|omega|decide|exact B_not (by omega)) ?_|refine Ze (by first|assumption) ?_|dsimp only));first|done|(with_reducible rfl)|simp (disch:=omega) only[w64]|(show False;done))
end Go.Proofs.YtdamfbighdkcbaaGreat.V
namespace Go.Proofs.YtdamfbighdkcbaaGreat.V
open Go.RowKit Go.Proofs.YtdamfbighdkcbaaGreat.D Go.Proofs.YtdamfbighdkcbaaGreat.P
def join2 (g:List (List Int)) (xs:List Int) (j:Nat):List Int:=(xs.take j++[T g (rd xs j) (rd xs (j+1:Nat))])++xs.drop (j+2)
noncomputable def bsum (g:List (List Int)) (u v xs:List Int):Nat→Int×Int
 | 0=>(rd u (rd xs 0)*At g v (xs.drop 1),-1)
 | j+1=>((bsum g u v xs j).1+(bsum g u v xs j).2*At g v (join2 g xs j),0 - (bsum g u v xs j).2)
noncomputable def Bd (g:List (List Int)) (u v xs:List Int) (d:Nat):Int:=(bsum g u v xs d).1+(bsum g u v xs d).2*At g v (xs.take d)
theorem ZeY {g:List (List Int)} (hg:Grp g) {xs:List Int} (hx:AllIn g.length xs) {j:Nat} (hj:j+1 < xs.length):AllIn g.length (join2 g xs j)∧(join2 g xs j).length+1=xs.length:=by
 obtain⟨a0,a1⟩:=hx j (by omega) (by omega)
 obtain⟨b0,b1⟩:=hx (j+1:Nat) (by omega) (by omega)
 obtain⟨t0,t1⟩:=hg.ent _ _ a0 a1 b0 b1
 refine⟨AllIn.append (AllIn.append (hx.take j) (ZgU t0 t1)) (hx.drop _),?_⟩
 simp only[join2,List.length_append,List.length_take,List.length_drop,List.length_singleton]
 omega
theorem ZmW {g:List (List Int)} (hg:Grp g) {m:Int} {u v xs:List Int} {d:Nat} (hm:Mdl g m u) (hc:Co g m d v) (hx:AllIn g.length xs) (hl:xs.length=d+1) :
  ∀j,j≤d→(-1000000 - 12*(j:Int)≤(bsum g u v xs j).1∧(bsum g u v xs j).1≤1000000+12*(j:Int))∧((bsum g u v xs j).2=1∨(bsum g u v xs j).2 = -1):=by
 have m2:=hm.m2;have m12:=hm.m12
 obtain⟨x0,x1⟩:=hx 0 (by omega) (by omega)
 intro j
 induction j with
 | zero =>
  intro _
  have ha:=At_bd hg (by omega) hc (hx.drop 1) (by rw[List.length_drop,hl];simp)
  obtain⟨c0,c1⟩:=Zf4 hm x0 x1 ha.1 ha.2
  rw[show bsum g u v xs 0=(rd u (rd xs 0)*At g v (xs.drop 1),-1)from rfl]
  exact⟨⟨by dsimp only;omega,by dsimp only;omega⟩,.inr rfl⟩
 | succ j ih =>
  intro hj
  obtain⟨⟨h1,h2⟩,h3⟩:=ih (by omega)
  obtain⟨k1,k2⟩:=ZeY hg hx (j:=j) (by omega)
  have ha:=At_bd hg (by omega) hc k1 (by omega)
  simp only[bsum]
  rcases h3 with h3|h3 <;> rw[h3] <;> refine⟨⟨by omega,by omega⟩,?_⟩
  ·
   exact .inr rfl
  ·
   exact .inl rfl
theorem ZiC {g:List (List Int)} (hg:Grp g) {m:Int} {u v xs ys:List Int} {d:Nat} (hm:Mdl g m u) (hc:Co g m d v) (hx:AllIn g.length xs) (hl:xs.length=d+1) {j:Nat} (hj:j≤d) (hy:AllIn g.length ys) (hyl:ys.length=d) :
  wrapI ((bsum g u v xs j).1+wrapI ((bsum g u v xs j).2*At g v ys))=(bsum g u v xs j).1+(bsum g u v xs j).2*At g v ys∧wrapI (0 - (bsum g u v xs j).2)=0 - (bsum g u v xs j).2 ∧ -2000000≤(bsum g u v xs j).1+(bsum g u v xs j).2*At g v ys∧(bsum g u v xs j).1+(bsum g u v xs j).2*At g v ys≤2000000:=by
 have m2:=hm.m2;have m12:=hm.m12;have d3:=hc.1.2
 obtain⟨⟨s1,s2⟩,s3⟩:=ZmW hg hm hc hx hl j hj
 have hb:=At_bd hg (by omega) hc hy (by omega)
 have p1 : -100≤(bsum g u v xs j).2*At g v ys∧(bsum g u v xs j).2*At g v ys≤100:=by rcases s3 with s3|s3 <;> rw[s3] <;> omega
 rw[w64 (x:=(bsum g u v xs j).2*At g v ys) (by omega) (by omega)]
 exact⟨w64 (by omega) (by omega),w64 (by omega) (by omega),by omega,by omega⟩
theorem ZmB {g:List (List Int)} (hg:Grp g) {m:Int} {u v xs:List Int} {d:Nat} (hm:Mdl g m u) (hc:Co g m d v) (hx:AllIn g.length xs) (hl:xs.length=d+1) :
  wrapI (rd u (rd xs 0)*At g v (xs.drop 1))=rd u (rd xs 0)*At g v (xs.drop 1):=by
 have m2:=hm.m2;have m12:=hm.m12
 obtain⟨x0,x1⟩:=hx 0 (by omega) (by omega)
 have ha:=At_bd hg (by omega) hc (hx.drop 1) (by rw[List.length_drop,hl];simp)
 obtain⟨c0,c1⟩:=Zf4 hm x0 x1 ha.1 ha.2
 exact w64 (by omega) (by omega)
theorem Own_ (xs:List Int) (hl:xs.length≤1048576):ZaK.f xs=some xs:=by
 rw[ZaK.f_eq,List.nil_append,show([]:List Int).length=0 from rfl]
 ((with_reducible repeat (first|refine Zl (by first|assumption|omega|rfl|exact B_pos (by omega)) ?_|refine Zk (by first|assumption|omega|decide|exact B_not (by omega)) ?_|refine Ze (by first|assumption) ?_|dsimp only));first|done|(with_reducible rfl)|simp (disch:=omega) only[w64]|(show False;done))
theorem w2n {j:Nat} (h:j < 4611686018427387904):wrapI ((j:Int)+2)=((j+2:Nat):Int):=by rw[w64 (by omega) (by omega)];omega
theorem Zju {g:List (List Int)} (hg:Grp g) {m:Int} {u v xs:List Int} {d:Nat} (hm:Mdl g m u) (hc:Co g m d v) (hx:AllIn g.length xs) (hl:xs.length=d+1) :
  ZZ.f g m u d v xs=some (Bd g u v xs d):=by
 have hlu:=hm.len;have n8:=hg.n8;have d3:=hc.1.2
 obtain⟨x0,x1⟩:=hx 0 (by omega) (by omega)
 have h0:=at_ hg hc (hx.drop 1) (by rw[List.length_drop,hl];simp)
 have hat:=at_ hg hc (hx.take d) (by rw[List.length_take,hl];omega)
 have loop:=up d (fun i=>ZZ.l0 xs (d:Int) (bsum g u v xs i).1 (bsum g u v xs i).2 (d:Int) (i:Int) g d v) (fun j hj=>by
  obtain⟨a0,a1⟩:=hx j (by omega) (by omega)
  obtain⟨b0,b1⟩:=hx (j+1:Nat) (by omega) (by omega)
  obtain⟨k1,k2⟩:=ZeY hg hx (j:=j) (by omega)
  have hv:Zal.f d v g (xs.take j++[T g (rd xs j) (rd xs (j+1:Nat))]++xs.drop (j+2))=some (At g v (join2 g xs j)):=show Zal.f d v g (join2 g xs j)=_ from at_ hg hc k1 (by omega)
  have ht:=times2 hg a0 a1 b0 b1
  obtain⟨w3,w4,_,_⟩:=ZiC hg hm hc hx hl (j:=j) (by omega) k1 (by omega)
  have z1:(xs.take j).length=j:=by rw[List.length_take];omega
  have z0:([]:List Int).length=0:=rfl
  have z2:∀y:Int,([y]:List Int).length=1:=fun _=>rfl
  have z3:(xs.drop (j+2)).length=xs.length - (j+2):=List.length_drop
  rw[ZZ.l0_eq,wn (j:=j) (by omega),w2n (j:=j) (by omega),Int.toNat_natCast,Int.toNat_natCast,z0,List.nil_append,z1,ht,Option.bind_some,z2]
  rw[List.length_append,z1,z2,z3,hv,Option.bind_some,w3,w4]
  (with_reducible repeat (first|refine Zl (by first|assumption|omega|rfl|exact B_pos (by omega)) ?_|refine Zk (by first|assumption|omega|decide|exact B_not (by omega)) ?_|refine Ze (by first|assumption) ?_|dsimp only))
  rfl)
 have wl:wrapI ((xs.length:Int) - 1)=(d:Int):=by rw[w64 (by omega) (by omega)];omega
 obtain⟨w3,_,_,_⟩:=ZiC hg hm hc hx hl (j:=d) (by omega) (hx.take d) (by rw[List.length_take];omega)
 have e1:xs.drop (1:Int).toNat=xs.drop 1:=rfl
 rw[ZZ.f_eq,e1,h0,Option.bind_some,wl,ZmB hg hm hc hx hl]
 (with_reducible repeat (first|refine Zl (by first|assumption|omega|rfl|exact B_pos (by omega)) ?_|refine Zk (by first|assumption|omega|decide|exact B_not (by omega)) ?_|refine Ze (by first|assumption) ?_|dsimp only))
 refine loop.trans ?_
 rw[ZZ.l0_eq,Int.toNat_natCast,hat,Option.bind_some,w3]
 (with_reducible repeat (first|refine Zl (by first|assumption|omega|rfl|exact B_pos (by omega)) ?_|refine Zk (by first|assumption|omega|decide|exact B_not (by omega)) ?_|refine Ze (by first|assumption) ?_|dsimp only))
 rfl
theorem Side_ {g:List (List Int)} (hg:Grp g) {m:Int} {u v xs:List Int} {d:Nat} (hm:Mdl g m u) (hc:Co g m d v) (hx:AllIn g.length xs) (hl:xs.length=d+1) :
  Zat.f g m u d v xs=some (Bd g u v xs d%m):=by
 have hlu:=hm.len;have n8:=hg.n8;have d3:=hc.1.2;have m2:=hm.m2;have m12:=hm.m12
 obtain⟨x0,x1⟩:=hx 0 (by omega) (by omega)
 have h0:=At_ (u:=u) hg hc (hx.drop 1) (by rw[List.length_drop,hl];simp)
 have hat:=At_ (u:=u) hg hc (hx.take d) (by rw[List.length_take,hl];omega)
 have loop:=up d (fun i=>Zat.l0 xs (d:Int) (bsum g u v xs i).1 (bsum g u v xs i).2 (i:Int) g m u d v) (fun j hj=>by
  obtain⟨a0,a1⟩:=hx j (by omega) (by omega)
  obtain⟨b0,b1⟩:=hx (j+1:Nat) (by omega) (by omega)
  obtain⟨k1,k2⟩:=ZeY hg hx (j:=j) (by omega)
  have hv:Zaz.f g d v (xs.take j++[T g (rd xs j) (rd xs (j+1:Nat))]++xs.drop (j+2))=some (At g v (join2 g xs j)):=show Zaz.f g d v (join2 g xs j)=_ from At_ (u:=u) hg hc k1 (by omega)
  have ra:=hg.row _ a0 a1
  obtain⟨w3,w4,_,_⟩:=ZiC hg hm hc hx hl (j:=j) (by omega) k1 (by omega)
  have z1:(xs.take j).length=j:=by rw[List.length_take];omega
  have z2:∀y:Int,([y]:List Int).length=1:=fun _=>rfl
  have z3:(xs.drop (j+2)).length=xs.length - (j+2):=List.length_drop
  have ho:=Own_ (xs.take j) (by omega)
  rw[Zat.l0_eq,wn (j:=j) (by omega),w2n (j:=j) (by omega),Int.toNat_natCast,Int.toNat_natCast,ho,Option.bind_some,z2]
  rw[List.length_append,z1,z2,z3,hv,Option.bind_some,w3,w4]
  (with_reducible repeat (first|refine Zl (by first|assumption|omega|rfl|exact B_pos (by omega)) ?_|refine Zk (by first|assumption|omega|decide|exact B_not (by omega)) ?_|refine Ze (by first|assumption) ?_|dsimp only))
  rfl)
 have wl:wrapI ((xs.length:Int) - 1)=(d:Int):=by rw[w64 (by omega) (by omega)];omega
 obtain⟨w3,_,b1,b2⟩:=ZiC hg hm hc hx hl (j:=d) (by omega) (hx.take d) (by rw[List.length_take];omega)
 have e1:xs.drop (1:Int).toNat=xs.drop 1:=rfl
 have hmod:=Mod_ (a:=(bsum g u v xs d).1+(bsum g u v xs d).2*At g v (xs.take d)) (m:=m) (by omega) (by omega) (by omega) (by omega)
 rw[Zat.f_eq,e1,h0,Option.bind_some,wl,ZmB hg hm hc hx hl]
 (with_reducible repeat (first|refine Zl (by first|assumption|omega|rfl|exact B_pos (by omega)) ?_|refine Zk (by first|assumption|omega|decide|exact B_not (by omega)) ?_|refine Ze (by first|assumption) ?_|dsimp only))
 refine loop.trans ?_
 rw[Zat.l0_eq,Int.toNat_natCast,hat,Option.bind_some,w3,hmod]
 (with_reducible repeat (first|refine Zl (by first|assumption|omega|rfl|exact B_pos (by omega)) ?_|refine Zk (by first|assumption|omega|decide|exact B_not (by omega)) ?_|refine Ze (by first|assumption) ?_|dsimp only))
 rfl
noncomputable def bdV (g:List (List Int)) (u v:List Int) (d i:Nat):Int:=Bd g u v (lst ((g.length:Int) - 1) (d+1) (i:Int)) d
noncomputable def bdL (g:List (List Int)) (m:Int) (u v:List Int) (d:Nat):List Int:=(List.range (cells g ((d+1:Nat):Int)).toNat).map fun i=>bdV g u v d i%m
theorem ZgY {g:List (List Int)} (hg:Grp g) {m:Int} {u v:List Int} {d:Nat} (hm:Mdl g m u) (hc:Co g m d v):ZaA.f g m u d v=some (((d+1:Nat):Int),bdL g m u v d):=by
 have d3:=hc.1.2
 have hT:=told hg hm.m2 hm.m12 (n:=d+1) (by omega) (F:=fun z0=>(Zau.f z0 g m u d v).map fun z=>z) (G:=bdV g u v d) (fun i hi=>by
  obtain⟨hx,_⟩:=Zgo hg (n:=d+1) (i:=i) hi
  have hll:=ZcK ((g.length:Int) - 1) (d+1) i
  have e:Zau.f (lst ((g.length:Int) - 1) (d+1) i) g m u d v=some (bdV g u v d i):=by
   rw[Zau.f_eq,Zju hg hm hc hx hll];rfl
  show Option.map _ (Zau.f _ g m u d v)=_
  rw[e];rfl)
 rw[ZaA.f_eq,wn (j:=d) (by omega),hT]
 rfl
end Go.Proofs.YtdamfbighdkcbaaGreat.V
namespace Go.Proofs.YtdamfbighdkcbaaGreat.V
open Go.RowKit Go.Proofs.YtdamfbighdkcbaaGreat.D
abbrev Vc:=Nat→Int
inductive Sp (m:Int) (W:Nat) (G:Vc→Prop):Vc→Prop
 | nil:Sp m W G (fun _=>0)
 | add {x g:Vc} (c:Int):Sp m W G x→G g→Sp m W G (fun i=>x i+c*g i)
 | alike {x y:Vc}:Sp m W G x→(∀i,i < W→m∣x i - y i)→Sp m W G y
section
variable {m:Int} {W:Nat} {G G' : Vc→Prop} {x y:Vc}
theorem Zaw {m a b:Int} (h:a=b):m∣a - b:=⟨0,by omega⟩
theorem Sp.plus (hx:Sp m W G x) (hy:Sp m W G y):Sp m W G (fun i=>x i+y i):=by
 induction hy with
 | nil=>exact .alike hx fun i _=>Zaw (by dsimp only;omega)
 | add c _ hg ih=>exact .alike (.add c ih hg) fun i _=>Zaw (by dsimp only;omega)
 | alike _ h ih =>
  refine .alike ih fun i hi => ?_
  have:=h i hi
  rwa[show ∀a b c:Int,a+b - (a+c)=b - c from fun a b c=>by omega]
theorem Sp.mul (c:Int) (hx:Sp m W G x):Sp m W G (fun i=>c*x i):=by
 induction hx with
 | nil=>exact .alike .nil fun i _=>Zaw (by simp)
 | add d _ hg ih=>exact .alike (.add (c*d) ih hg) fun i _=>Zaw (by rw[Int.mul_add,Int.mul_assoc])
 | alike _ h ih =>
  refine .alike ih fun i hi => ?_
  rw[←Int.mul_sub]
  exact Int.dvd_mul_of_dvd_right (h i hi)
theorem Sp.gen {g:Vc} (h:G g):Sp m W G g := .alike (.add 1 .nil h) fun i _=>Zaw (by omega)
theorem Sp.mono (h:∀g,G g→Sp m W G' g) (hx:Sp m W G x):Sp m W G' x:=by
 induction hx with
 | nil=>exact .nil
 | add c _ hg ih=>exact ih.plus ((h _ hg).mul c)
 | alike _ h' ih=>exact .alike ih h'
theorem Sp.two {a b:Int} (hx:Sp m W G x) (hy:Sp m W G y) {z:Vc} (h:∀i,i < W→m∣a*x i+b*y i - z i):Sp m W G z := .alike ((hx.mul a).plus (hy.mul b)) h
theorem Sp.dvd {d:Int} (hd:d∣m) {i:Nat} (hi:i < W) (h:∀g,G g→d∣g i) (hx:Sp m W G x):d∣x i:=by
 induction hx with
 | nil=>exact Int.dvd_zero d
 | add c _ hg ih=>exact Int.dvd_add ih (Int.dvd_mul_of_dvd_right (h _ hg))
 | alike _ h' ih =>
  have:=Int.dvd_sub ih (Int.dvd_trans hd (h' i hi))
  rwa[show ∀a b:Int,a - (a - b)=b from fun a b=>by omega]at this
structure Sub (m:Int) (W:Nat) (M:Vc→Prop):Prop where
 zero:M fun _=>0
 lin:∀x y,M x→M y→∀c,M fun i=>x i+c*y i
 alike:∀x y,M x→(∀i,i < W→m∣x i - y i)→M y
theorem Sp.sub:Sub m W (Sp m W G):=⟨.nil,fun _ _ hx hy c=>hx.plus (hy.mul c),fun _ _ hx h => .alike hx h⟩
theorem Sub.all {M:Vc→Prop} (hM:Sub m W M) (h:∀g,G g→M g) (hx:Sp m W G x):M x:=by
 induction hx with
 | nil=>exact hM.zero
 | add c _ hg ih=>exact hM.lin _ _ ih (h _ hg) c
 | alike _ h' ih=>exact hM.alike _ _ ih h'
end
def V (x:List Int):Vc:=fun i=>rd x (i:Int)
structure PRow (m:Int) (W j:Nat) (r:List Int):Prop where
 len:r.length=W
 ent:AllIn m r
 zero:∀i:Nat,i < j→rd r (i:Int)=0
 pos:0 < rd r (j:Int)
 lt:rd r (j:Int) < m
 dvd:rd r (j:Int)∣m
structure PTab (m:Int) (W:Nat) (p:List (List Int)):Prop where
 len:p.length=W
 rws:∀j:Nat,j < W→row p (j:Int)=[]∨PRow m W j (row p (j:Int))
def Rws (W:Nat) (p:List (List Int)) (k:Nat):Vc→Prop:=fun g=>∃j:Nat,k≤j∧j < W∧row p (j:Int)≠[]∧g=V (row p (j:Int))
def GT (W:Nat) (p st:List (List Int)) (k:Nat):Vc→Prop:=fun g=>Rws W p k g∨∃s∈st,(∀i:Nat,i < k→rd s (i:Int)=0)∧g=V s
def How (m:Int) (W:Nat) (p:List (List Int)) (G:Nat→Vc→Prop):Prop:=∀j:Nat,j < W→row p (j:Int)≠[]→Sp m W (G (j+1)) (fun i=>m / rd (row p (j:Int)) (j:Int)*rd (row p (j:Int)) (i:Int))
structure Inv (m:Int) (W:Nat) (p st:List (List Int)):Prop where
 tab:PTab m W p
 sts:∀s∈st,s.length=W∧AllIn m s
 how:How m W p (GT W p st)
def dv (m:Int) (p:List (List Int)) (j:Nat):Int:=if row p (j:Int)=[]then m else rd (row p (j:Int)) (j:Int)
structure Lead (m:Int) (W:Nat) (p:List (List Int)) (M:Vc→Prop):Prop where
 tab:PTab m W p
 sub:Sub m W M
 own:∀j:Nat,j < W→row p (j:Int)≠[]→M (V (row p (j:Int)))
 lead:∀x,M x→∀j:Nat,j < W→(∀i:Nat,i < j→m∣x i)→dv m p j∣x j
section
variable {m:Int} {W:Nat} {p:List (List Int)}
theorem PTab.prow (h:PTab m W p) {j:Nat} (hj:j < W) (hr:row p (j:Int)≠[]):PRow m W j (row p (j:Int)):=(h.rws j hj).resolve_left hr
theorem Rws.zero (h:PTab m W p) {k j:Nat} {g:Vc} (hg:Rws W p k g) (hj:j < k):g j=0:=by
 obtain⟨i,h1,h2,h3,rfl⟩:=hg
 exact(h.prow h2 h3).zero j (by omega)
theorem Rws.part {k:Nat} (hk:k < W) (hr:row p (k:Int)≠[]) {x:Vc} (hx:Sp m W (Rws W p k) x):∃(c:Int) (w:Vc),Sp m W (Rws W p (k+1)) w∧∀i,i < W→m∣c*V (row p (k:Int)) i+w i - x i:=by
 induction hx with
 | nil=>exact⟨0,_,.nil,fun i _=>Zaw (by simp)⟩
 | add d _ hg ih =>
  obtain⟨c,w,h1,h2⟩:=ih
  obtain⟨j,j1,j2,j3,rfl⟩:=hg
  by_cases e:j=k
  ·
   subst e
   refine⟨c+d,w,h1,fun i hi => ?_⟩
   have:=h2 i hi
   rw[Int.add_mul]
   rwa[show ∀a b c d:Int,a+b+c - (d+b)=a+c - d from fun a b c d=>by omega]
  ·
   refine⟨c,_,.add d h1 ⟨j,by omega,j2,j3,rfl⟩,fun i hi => ?_⟩
   have:=h2 i hi
   dsimp only
   rwa[show ∀a b c d:Int,a+(b+c) - (d+c)=a+b - d from fun a b c d=>by omega]
 | alike _ h ih =>
  obtain⟨c,w,h1,h2⟩:=ih
  refine⟨c,w,h1,fun i hi => ?_⟩
  have:=Int.dvd_add (h2 i hi) (h i hi)
  rwa[show ∀a b c:Int,a - b+(b - c)=a - c from fun a b c=>by omega]at this
theorem Rws.next {k:Nat} (hr:row p (k:Int)=[]) {x:Vc} (hx:Sp m W (Rws W p k) x):Sp m W (Rws W p (k+1)) x:=hx.mono fun g ⟨j,j1,j2,j3,e⟩ => .gen ⟨j,by
 rcases Nat.lt_or_eq_of_le j1 with h|rfl
 ·
  exact h
 ·
  exact absurd hr j3,j2,j3,e⟩
theorem Rws.down (m0:0 < m) (ht:PTab m W p) (hh:How m W p (Rws W p)) {x:Vc} (hx:Sp m W (Rws W p 0) x) {j:Nat} (hj:j≤W) (hz:∀i:Nat,i < j→m∣x i):∀k,k≤j→Sp m W (Rws W p k) x:=by
 intro k
 induction k with
 | zero=>exact fun _=>hx
 | succ k ih =>
  intro hk
  have h:=ih (by omega)
  by_cases hr:row p (k:Int)=[]
  ·
   exact Rws.next hr h
  have hp:=ht.prow (by omega) hr
  obtain⟨c,w,h1,h2⟩:=Rws.part (by omega) hr h
  have hw:m∣w k:=h1.dvd (Int.dvd_refl m) (by omega) fun g hg=>by rw[Rws.zero ht hg (by omega)];exact Int.dvd_zero m
  have hc:m∣c*rd (row p (k:Int)) (k:Int):=by
   have:=Int.dvd_add (h2 k (by omega)) (hz k (by omega))
   rw[show ∀a b c:Int,a+b - c+c=a+b from fun a b c=>by omega]at this
   have:=Int.dvd_sub this hw
   rwa[show ∀a b:Int,a+b - b=a from fun a b=>by omega]at this
  obtain⟨q,hq⟩:=hp.dvd
  have hd:=hp.pos
  have hmd:m / rd (row p (k:Int)) (k:Int)=q:=by rw[hq];exact Int.mul_ediv_cancel_left _ (by omega)
  obtain⟨t,ht'⟩:q∣c:=by
   obtain⟨t,ht'⟩:=hc
   refine⟨t,Int.eq_of_mul_eq_mul_left (show rd (row p (k:Int)) (k:Int)≠0 by omega) ?_⟩
   rw[Int.mul_comm,ht', hq,Int.mul_assoc]
  have hH:=hh k (by omega) hr
  rw[hmd]at hH
  refine .alike ((hH.mul t).plus h1) fun i hi => ?_
  have:=h2 i hi
  rwa[show t*(q*rd (row p (k:Int)) (i:Int))=c*V (row p (k:Int)) i by rw[ht', ←Int.mul_assoc,Int.mul_comm t q];rfl]
theorem Zne (m0:0 < m) (ht:PTab m W p) (hh:How m W p (Rws W p)) {M:Vc→Prop} (hM:∀x,Sp m W (Rws W p 0) x↔M x):Lead m W p M where
 tab:=ht
 sub:=by rw[show M=Sp m W (Rws W p 0)from funext fun x=>propext (hM x).symm];exact Sp.sub
 own:=fun j hj hr=>(hM _).1 (.gen ⟨j,Nat.zero_le _,hj,hr,rfl⟩)
 lead:=fun x hx j hj hz=>by
  have h:=Rws.down m0 ht hh ((hM x).2 hx) (Nat.le_of_lt hj) hz j (Nat.le_refl _)
  unfold dv
  by_cases hr:row p (j:Int)=[]
  ·
   rw[if_pos hr]
   exact(Rws.next hr h).dvd (Int.dvd_refl m) hj fun g hg=>by rw[Rws.zero ht hg (by omega)];exact Int.dvd_zero m
  ·
   rw[if_neg hr]
   have hp:=ht.prow hj hr
   refine h.dvd hp.dvd hj fun g hg => ?_
   obtain⟨i,i1,i2,i3,rfl⟩:=hg
   by_cases e:i=j
   ·
    subst e;exact Int.dvd_refl _
   ·
    have:V (row p (i:Int)) j=0:=(ht.prow i2 i3).zero j (by omega)
    rw[this];exact Int.dvd_zero _
theorem dv_bd (m0:0 < m) (ht:PTab m W p) {j:Nat} (hj:j < W):0 < dv m p j∧dv m p j≤m∧dv m p j∣m:=by
 unfold dv
 by_cases hr:row p (j:Int)=[]
 ·
  rw[if_pos hr];exact⟨m0,Int.le_refl _,Int.dvd_refl _⟩
 ·
  rw[if_neg hr]
  have hp:=ht.prow hj hr
  exact⟨hp.pos,by have:=hp.lt;omega,hp.dvd⟩
theorem ZkK {a b:Int} (ha:0 < a) (hb:0 < b) (h:a∣b):a≤b:=Int.le_of_dvd hb h
theorem ZkI (m0:0 < m) {p' : List (List Int)} {M:Vc→Prop} (h:Lead m W p M) (h' : Lead m W p' M) {j:Nat} (hj:j < W):dv m p j=dv m p' j:=by
 have key:∀{p p' : List (List Int)},Lead m W p M→Lead m W p' M→dv m p j∣dv m p' j:=fun {p p'} h h' => by
  by_cases hr:row p' (j:Int)=[]
  ·
   rw[show dv m p' j=m from if_pos hr];exact(dv_bd m0 h.tab hj).2.2
  ·
   rw[show dv m p' j=rd (row p' (j:Int)) (j:Int)from if_neg hr]
   have hp:=h'.tab.prow hj hr
   exact h.lead _ (h'.own j hj hr) j hj fun i hi=>by rw[show V (row p' (j:Int)) i=0 from hp.zero i hi];exact Int.dvd_zero m
 have a:=ZkK (dv_bd m0 h.tab hj).1 (dv_bd m0 h'.tab hj).1 (key h h')
 have b:=ZkK (dv_bd m0 h'.tab hj).1 (dv_bd m0 h.tab hj).1 (key h' h)
 omega
structure Least (m:Int) (W:Nat) (p:List (List Int)) (M:Vc→Prop) (x y:List Int):Prop where
 len:y.length=W
 ent:AllIn m y
 dif:M fun i=>rd x (i:Int) - rd y (i:Int)
 lt:∀j:Nat,j < W→rd y (j:Int) < dv m p j
theorem Least.same (m0:0 < m) {p' : List (List Int)} {M:Vc→Prop} (h:Lead m W p M) (h' : Lead m W p' M) {x y y' : List Int} (hy:Least m W p M x y) (hy' : Least m W p' M x y'):y=y' := by
 have hd:M fun i=>rd y (i:Int) - rd y' (i:Int):=by
  refine h.sub.alike _ _ (h.sub.lin _ _ hy'.dif hy.dif (-1)) fun i _=>Zaw ?_
  omega
 have hall:∀n,n≤W→∀i:Nat,i < n→rd y (i:Int)=rd y' (i:Int):=by
  intro n
  induction n with
  | zero=>intro _ i hi;omega
  | succ n ih =>
   intro hn i hi
   have ih:=ih (by omega)
   by_cases e:i=n
   ·
    subst e
    have hl:=h.lead _ hd i (by omega) fun k hk=>by rw[ih k hk];exact⟨0,by omega⟩
    have a1:=hy.lt i (by omega)
    have a2:=hy'.lt i (by omega)
    rw[←ZkI m0 h h' (show i < W by omega)]at a2
    obtain⟨b1,_⟩:=hy.ent i (by omega) (by rw[hy.len];omega)
    obtain⟨b2,_⟩:=hy'.ent i (by omega) (by rw[hy'.len];omega)
    have hd0:=(dv_bd m0 h.tab (show i < W by omega)).1
    obtain⟨q,hq⟩:=hl
    have q0:q=0:=by
     rcases Int.lt_trichotomy q 0 with h|h|h
     ·
      have:=Int.mul_le_mul_of_nonneg_left (show q ≤ -1 by omega) (Int.le_of_lt hd0)
      omega
     ·
      exact h
     ·
      have:=Int.mul_le_mul_of_nonneg_left (show 1≤q by omega) (Int.le_of_lt hd0)
      omega
    rw[q0]at hq
    omega
   ·
    exact ih i (by omega)
 refine Zfg (by rw[hy.len,hy'.len]) fun i i0 i1 => ?_
 obtain⟨n,rfl⟩:=Int.eq_ofNat_of_zero_le i0
 exact hall W (Nat.le_refl _) n (by have:=hy.len;omega)
end
end Go.Proofs.YtdamfbighdkcbaaGreat.V
