/- What the proof of the law OrderOfCohomology stands on, part 5: words, each Go function's Lean function, and that the Go code comes to its answers; no condition. (Packed by wip/myprint/pack.py out of what the kit's printer wrote, its words among it, partly by our patches of it, and out of texts of this session.) -/
import Derived.Test.YtdamfbighdkcbaaKOrderOfCohomology3
import Derived.Test.YtdamfbighdkcbaaKOrderOfCohomology4
set_option linter.unusedVariables false
set_option linter.unusedSimpArgs false
set_option maxRecDepth 100000
namespace Go.Proofs.Ytdamfbighdkcbaa.P
open Go Go.RowKit Go.Proofs.Ytdamfbighdkcbaa.D
noncomputable def ZS.E:Env:={ tt:=TT,con:=[(38,ZV.con)],frz:=[],rows:=[],live:=[(4,[0,1,5])],n:=27,pin:=0,nils:=[] }
noncomputable def ZS.fn:D.Fn:={ body:=Try.f37.body.getD .skip,res:=Try.f37.results.toList,ins:=[.one (.v (.sl 25 (.sl 2 (.int .i64)))),.one (.v (.sl 25 (.sl 2 (.int .i64))))],outs:=[.one (.v .bool)] }
def ZS.enc (y:lsd (flats ZS.fn.outs)×lsd (ios ZS.fn.ins)):Bool:=y.1.1
noncomputable def ZS.f (l0:List (List Int)) (l1:List (List Int)):Option Bool:=denF ZS.E ZS.fn ZS.enc (l0,l1,())
noncomputable def ZS.l0 (x0:List (List Int)) (x1:List (List Int)) (x5:Int):Option Bool:=denAt ZS.E ZS.fn ZS.enc [1,1,0,1,0] { fr:=[(0,.lf (.sl (.sl 2 (.int .i64)) x0)),(1,.lf (.sl (.sl 2 (.int .i64)) x1)),(5,.lf (.int .i64 x5))],ob:=[],nx:=0 }
theorem ZS.f_eq (l0:List (List Int)) (l1:List (List Int)):ZS.f l0 l1=if(l0.length:Int)=(l1.length:Int)then(ZS.l0 l0 l1 0)else(some false):=by kernel_rfl
theorem ZS.l0_eq (x0:List (List Int)) (x1:List (List Int)) (x5:Int):ZS.l0 x0 x1 x5=if x5 < (x0.length:Int)then(if 0≤x5 then(if x5 < (x0.length:Int)then(if 0≤x5 then(if x5 < (x1.length:Int)then((ZV.f (row x0 x5) (row x1 x5)).bind fun t25=>if t25=true then(ZS.l0 x0 x1 (wrapI (x5+1)))else(some false))else none)else none)else none)else none)else(some true):=(Zp _ _ _ _).trans (by kernel_rfl)
noncomputable def ZS.con:Con:=⟨ZS.fn.ins,ZS.fn.outs,Bool,fun x=>ZS.f x.1 x.2.1,fun r=>((r,()),(()))⟩
theorem ZS.valid:Valid Try.prog 37 ZS.con:=fnV ZS.fn ZS.E ZS.enc ⟨ttOk,(ZB ZV.valid Zaz)⟩ Try.func37
end Go.Proofs.Ytdamfbighdkcbaa.P
namespace Go.Proofs.Ytdamfbighdkcbaa.P
open Go Go.RowKit Go.Proofs.Ytdamfbighdkcbaa.D
noncomputable def ZaC.E:Env:={ tt:=TT,con:=[(37,ZS.con)],frz:=[],rows:=[],live:=[],n:=11,pin:=0,nils:=[] }
noncomputable def ZaC.fn:D.Fn:={ body:=Try.f11.body.getD .skip,res:=Try.f11.results.toList,ins:=[.agg [.v (.sl 25 (.sl 2 (.int .i64)))],.agg [.v (.sl 25 (.sl 2 (.int .i64)))]],outs:=[.one (.v .bool)] }
def ZaC.enc (y:lsd (flats ZaC.fn.outs)×lsd (ios ZaC.fn.ins)):Bool:=y.1.1
noncomputable def ZaC.f (l0_0:List (List Int)) (l1_0:List (List Int)):Option Bool:=denF ZaC.E ZaC.fn ZaC.enc (l0_0,l1_0,())
theorem ZaC.f_eq (l0_0:List (List Int)) (l1_0:List (List Int)):ZaC.f l0_0 l1_0=(ZS.f l0_0 l1_0).bind fun t9=>if t9=true then(some true)else(some false):=by kernel_rfl
noncomputable def ZaC.con:Con:=⟨ZaC.fn.ins,ZaC.fn.outs,Bool,fun x=>ZaC.f x.1 x.2.1,fun r=>((r,()),(()))⟩
theorem ZaC.valid:Valid Try.prog 11 ZaC.con:=fnV ZaC.fn ZaC.E ZaC.enc ⟨ttOk,(ZB ZS.valid Zaz)⟩ Try.func11
end Go.Proofs.Ytdamfbighdkcbaa.P
namespace Go.Proofs.Ytdamfbighdkcbaa.P
open Go Go.RowKit Go.Proofs.Ytdamfbighdkcbaa.D
noncomputable def Zar.E:Env:={ tt:=TT,con:=[(38,ZV.con)],frz:=[],rows:=[],live:=[],n:=16,pin:=0,nils:=[] }
noncomputable def Zar.fn:D.Fn:={ body:=Try.f12.body.getD .skip,res:=Try.f12.results.toList,ins:=[.agg [.v (.int .i64),.v (.sl 2 (.int .i64))],.agg [.v (.int .i64),.v (.sl 2 (.int .i64))]],outs:=[.one (.v .bool)] }
def Zar.enc (y:lsd (flats Zar.fn.outs)×lsd (ios Zar.fn.ins)):Bool:=y.1.1
noncomputable def Zar.f (a0_0:Int) (l0_1:List Int) (a1_0:Int) (l1_1:List Int):Option Bool:=denF Zar.E Zar.fn Zar.enc (a0_0,l0_1,a1_0,l1_1,())
theorem Zar.f_eq (a0_0:Int) (l0_1:List Int) (a1_0:Int) (l1_1:List Int):Zar.f a0_0 l0_1 a1_0 l1_1=if a0_0=a1_0 then((ZV.f l0_1 l1_1).bind fun t14=>if t14=true then(some true)else(some false))else(some false):=by kernel_rfl
noncomputable def Zar.con:Con:=⟨Zar.fn.ins,Zar.fn.outs,Bool,fun x=>Zar.f x.1 x.2.1 x.2.2.1 x.2.2.2.1,fun r=>((r,()),(()))⟩
theorem Zar.valid:Valid Try.prog 12 Zar.con:=fnV Zar.fn Zar.E Zar.enc ⟨ttOk,(ZB ZV.valid Zaz)⟩ Try.func12
end Go.Proofs.Ytdamfbighdkcbaa.P
namespace Go.Proofs.Ytdamfbighdkcbaa.P
open Go Go.RowKit Go.Proofs.Ytdamfbighdkcbaa.D
noncomputable def Zm.E:Env:={ tt:=TT,con:=[(5,ZaF.con),(6,Zay.con),(8,ZaA.con),(9,Zao.con),(7,ZG.con),(10,ZF.con),(11,ZaC.con),(12,Zar.con)],frz:=[],rows:=[],live:=[],n:=62,pin:=0,nils:=[] }
noncomputable def Zm.fn:D.Fn:={ body:=Try.f3.body.getD .skip,res:=Try.f3.results.toList,ins:=[.agg [.v (.sl 25 (.sl 2 (.int .i64)))],.agg [.v (.int .i64),.v (.sl 2 (.int .i64))],.one (.v (.int .i64))],outs:=[.one (.v .bool)] }
def Zm.enc (y:lsd (flats Zm.fn.outs)×lsd (ios Zm.fn.ins)):Bool:=y.1.1
noncomputable def Zm.f (l0_0:List (List Int)) (a1_0:Int) (l1_1:List Int) (a2:Int):Option Bool:=denF Zm.E Zm.fn Zm.enc (l0_0,a1_0,l1_1,a2,())
theorem Zm.f_eq (l0_0:List (List Int)) (a1_0:Int) (l1_1:List Int) (a2:Int):Zm.f l0_0 a1_0 l1_1 a2=(ZaF.f l0_0 1048576).bind fun t16=>if t16 < 0 then(some true)else((Zay.f a1_0 l1_1 t16).bind fun t21=>if t21 < 0 then(some true)else((ZaA.f l0_0).bind fun t26=>(Zao.f a1_0 l1_1).bind fun t28=>(ZG.f t26 t28.1 t28.2 a2).bind fun t30=>(ZaA.f l0_0).bind fun t34=>(Zao.f a1_0 l1_1).bind fun t36=>(ZF.f t34 t36.1 t36.2 a2).bind fun t41=>if t41.1=t30.1 then(if t41.2=t30.2 then((ZaA.f l0_0).bind fun t54=>(ZaC.f t34 t54).bind fun t55=>if t55=true then((Zao.f a1_0 l1_1).bind fun t59=>(Zar.f t36.1 t36.2 t59.1 t59.2).bind fun t60=>if t60=true then(some true)else(some false))else(some false))else(some false))else(some false))):=by kernel_rfl
noncomputable def Zm.con:Con:=⟨Zm.fn.ins,Zm.fn.outs,Bool,fun x=>Zm.f x.1 x.2.1 x.2.2.1 x.2.2.2.1,fun r=>((r,()),(()))⟩
theorem Zm.valid:Valid Try.prog 3 Zm.con:=fnV Zm.fn Zm.E Zm.enc ⟨ttOk,(ZB ZaF.valid (ZB Zay.valid (ZB ZaA.valid (ZB Zao.valid (ZB ZG.valid (ZB ZF.valid (ZB ZaC.valid (ZB Zar.valid Zaz))))))))⟩ Try.func3
end Go.Proofs.Ytdamfbighdkcbaa.P
namespace Go.Proofs.Ytdamfbighdkcbaa.V
open Go Go.RowKit Go.Proofs.Ytdamfbighdkcbaa.D
theorem w64 {x:Int} (h0 : -9223372036854775808≤x) (h1:x≤9223372036854775807):wrapI x=x:=by unfold wrapI;rw[ZcM];unfold wrap64;omega
theorem wn {j:Nat} (h:j < 4611686018427387904):wrapI ((j:Int)+1)=((j+1:Nat):Int):=by rw[w64 (by omega) (by omega)];omega
theorem Zi {α : Type} {p:Prop} {inst:Decidable p} {a b r : α} (h:p) (k:a=r):(if p then a else b)=r:=by rw[if_pos h];exact k
theorem Zh {α : Type} {p:Prop} {inst:Decidable p} {a b r : α} (h:¬ p) (k:b=r):(if p then a else b)=r:=by rw[if_neg h];exact k
theorem Zf {α β : Type} {c:Option α} {f : α → Option β} {a : α} {r:Option β} (h:c=some a) (k:f a=r):c.bind f=r:=by rw[h];exact k
theorem Zbv:maxLen≤9223372036854775807:=by unfold maxLen;omega
noncomputable def ite_ {α : Type} (p:Prop) (a b : α) : α := @ite α p (Classical.propDecidable p) a b
theorem ZbN {α : Type} {p:Prop} (h:p) (a b : α):ite_ p a b=a:=by unfold ite_;simp[h]
theorem ZbM {α : Type} {p:Prop} (h:¬ p) (a b : α):ite_ p a b=b:=by unfold ite_;simp[h]
noncomputable def B (p:Prop):Bool := @decide p (Classical.propDecidable p)
theorem B_pos {p:Prop} (h:p):B p=true:=by unfold B;simp[h]
theorem B_neg {p:Prop} (h:¬ p):B p=false:=by unfold B;simp[h]
theorem B_not {p:Prop} (h:¬ p):¬ (B p=true):=by rw[B_neg h];decide
theorem B_iff {p:Prop}:B p=true↔p:=by unfold B;simp
theorem Zbt {p q:Prop} (h:p↔q):B p=B q:=by rw[show p=q from propext h]
theorem Zft (p:Prop) {inst:Decidable p}:decide p=B p:=by by_cases h:p <;> simp[h,B]
theorem Zme:B True=true:=B_pos trivial
theorem scan {R:Type} (n:Nat) (L:Int→R) (P:Int→Prop) (bad:R)
  (hs:∀i:Int,0≤i→i < n→(∀j:Int,0≤j→j < i→P j)→(P i→L i=L (i+1))∧(¬ P i→L i=bad)) :
  ((∀j:Int,0≤j→j < n→P j)∧L 0=L n)∨(∃m:Int,0≤m∧m < n∧(∀j:Int,0≤j→j < m→P j)∧¬ P m∧L 0=L m∧L 0=bad):=by
 suffices H:∀d m:Nat,m+d=n→(∀j:Int,0≤j→j < m→P j) →
   ((∀j:Int,0≤j→j < n→P j)∧L m=L n)∨(∃i:Int,0≤i∧i < n∧(∀j:Int,0≤j→j < i→P j)∧¬ P i∧L m=L i∧L m=bad)by
  simpa using H n 0 (by omega) (fun j h0 h1=>by omega)
 intro d
 induction d with
 | zero =>
  intro m hm hp
  have:(m:Int)=n:=by omega
  rw[this]at hp ⊢
  exact .inl ⟨hp,rfl⟩
 | succ d ih =>
  intro m hm hp
  obtain⟨h1,h2⟩:=hs m (by omega) (by omega) hp
  by_cases h:P m
  ·
   have hp' : ∀j:Int,0≤j→j < ((m+1:Nat):Int)→P j:=fun j h0 hj=>by
    by_cases e:j=m
    ·
     rw[e];exact h
    ·
     exact hp j h0 (by omega)
   have:=ih (m+1) (by omega) hp'
   rwa[Int.natCast_add,Int.natCast_one,←h1 h]at this
  ·
   exact .inr ⟨m,by omega,by omega,hp,h,rfl,h2 h⟩
theorem scanB (n:Nat) (L:Int→Option Bool) (P:Int→Prop) (Q:Prop)
  (hs:∀i:Int,0≤i→i < n→(∀j:Int,0≤j→j < i→P j)→(P i→L i=L (i+1))∧(¬ P i→L i=some false))
  (he:(∀j:Int,0≤j→j < n→P j)→L n=some (B Q)):L 0=some (B ((∀j:Int,0≤j→j < n→P j)∧Q)):=by
 rcases scan n L P (some false) hs with ⟨h1,h2⟩|⟨j,h0,h1,_,h2,_,h3⟩
 ·
  rw[Zbt (show((∀j:Int,0≤j→j < n→P j)∧Q)↔Q from⟨fun h=>h.2,fun h=>⟨h1,h⟩⟩),h2]
  exact he h1
 ·
  rw[B_neg fun h=>h2 (h.1 j h0 h1)]
  exact h3
theorem scanT (n:Nat) (L:Int→Option Bool) (P:Int→Prop)
  (hs:∀i:Int,0≤i→i < n→(∀j:Int,0≤j→j < i→P j)→(P i→L i=L (i+1))∧(¬ P i→L i=some false))
  (he:(∀j:Int,0≤j→j < n→P j)→L n=some true):L 0=some (B (∀j:Int,0≤j→j < n→P j)):=by
 have:=scanB n L P True hs (fun h=>by rw[Zme];exact he h)
 rwa[Zbt (show((∀j:Int,0≤j→j < n→P j)∧True)↔_ from⟨fun h=>h.1,fun h=>⟨h,trivial⟩⟩)]at this
theorem scanI {R:Type} (n:Nat) (L:Int→R) (P:Int→Prop) (bad go:R)
  (hs:∀i:Int,0≤i→i < n→(∀j:Int,0≤j→j < i→P j)→(P i→L i=L (i+1))∧(¬ P i→L i=bad)) (he:(∀j:Int,0≤j→j < n→P j)→L n=go) :
  ((∀j:Int,0≤j→j < n→P j)→L 0=go)∧(¬ (∀j:Int,0≤j→j < n→P j)→L 0=bad):=by
 rcases scan n L P bad hs with ⟨h1,h2⟩|⟨j,h0,h1,_,h2,_,h3⟩
 ·
  exact⟨fun _=>h2.trans (he h1),fun h=>absurd h1 h⟩
 ·
  exact⟨fun h=>absurd (h j h0 h1) h2,fun _=>h3⟩
theorem up {R:Type} (n:Nat) (L:Nat→R) (h:∀i,i < n→L i=L (i+1)):L 0=L n:=by
 suffices H:∀m,m≤n→L 0=L m from H n (Nat.le_refl _)
 intro m
 induction m with
 | zero=>exact fun _=>rfl
 | succ m ih=>exact fun hm=>(ih (by omega)).trans (h m (by omega))
theorem Zec (xs:List Int) (j:Nat):rd xs (j:Int)=xs.getD j 0:=by simp[rd]
theorem Za4 {xs:List Int} {j:Nat} (h:j < xs.length):rd xs (j:Int)=xs[j]:=by simp[rd,List.getD_eq_getElem?_getD,List.getElem?_eq_getElem h]
theorem rd_at {xs:List Int} {i:Int} (h0:0≤i) (h1:i < xs.length):xs[i.toNat]? = some (rd xs i):=by
 have h:i.toNat < xs.length:=by omega
 simp[rd,List.getD_eq_getElem?_getD,List.getElem?_eq_getElem h]
theorem ZeT {xs:List Int} {i:Int} (h0:0≤i) (h1:i < xs.length):rd xs i∈xs:=List.mem_of_getElem? (rd_at h0 h1)
theorem Zh8 {xs ys:List Int} (hl:xs.length=ys.length) (h:∀i:Int,0≤i→i < xs.length→rd xs i=rd ys i):xs=ys:=by
 apply List.ext_getElem hl
 intro i h1 h2
 have:=h i (by omega) (by omega)
 simpa [rd,List.getD_eq_getElem?_getD,List.getElem?_eq_getElem h1,List.getElem?_eq_getElem h2] using this
theorem Za0 {g:List (List Int)} {j:Nat} (h:j < g.length):row g (j:Int)=g[j]:=by simp[row,List.getD_eq_getElem?_getD,List.getElem?_eq_getElem h]
theorem ZdX {g:List (List Int)} {a:Int} (h0:0≤a) (h1:a < g.length):row g a∈g:=by
 have h:a.toNat < g.length:=by omega
 unfold row
 rw[List.getD_eq_getElem?_getD,List.getElem?_eq_getElem h]
 exact List.getElem_mem h
theorem Zdm {g:List (List Int)} {r:List Int} (h:r∈g):∃i:Int,0≤i∧i < g.length∧row g i=r:=by
 obtain⟨i,hi,rfl⟩:=List.mem_iff_getElem.1 h
 exact⟨i,by omega,by omega,Za0 hi⟩
theorem ZlN {xs ys:List (List Int)} (hl:xs.length=ys.length) (h:∀i:Int,0≤i→i < xs.length→row xs i=row ys i):xs=ys:=by
 apply List.ext_getElem hl
 intro i h1 h2
 have:=h i (by omega) (by omega)
 rwa[Za0 h1,Za0 h2]at this
def AllIn (n:Int) (xs:List Int):Prop:=∀i:Int,0≤i→i < xs.length→0≤rd xs i∧rd xs i < n
theorem Zf8 {n x:Int} (h0:0≤x) (h1:x < n):AllIn n [x]:=by
 intro i i0 i1
 have:i=0:=by simp at i1;omega
 subst this;simp[rd, *]
theorem Zf9 {n x y:Int} (h0:0≤x) (h1:x < n) (h2:0≤y) (h3:y < n):AllIn n [x,y]:=by
 intro i i0 i1
 have:i=0∨i=1:=by simp at i1;omega
 rcases this with rfl|rfl <;> simp[rd, *]
theorem Zg1 {n x y z:Int} (h0:0≤x) (h1:x < n) (h2:0≤y) (h3:y < n) (h4:0≤z) (h5:z < n):AllIn n [x,y,z]:=by
 intro i i0 i1
 have:i=0∨i=1∨i=2:=by simp at i1;omega
 rcases this with rfl|rfl|rfl <;> simp[rd, *]
theorem AllIn.mem {n:Int} {xs:List Int} (h:AllIn n xs) {x:Int} (hx:x∈xs):0≤x∧x < n:=by
 obtain⟨i,hi,rfl⟩:=List.mem_iff_getElem.1 hx
 have:=h i (by omega) (by omega)
 rwa[Za4 hi]at this
theorem Zbq {n:Int} {xs:List Int} (h:∀x∈xs,0≤x∧x < n):AllIn n xs:=fun i i0 i1=>h _ (ZeT i0 i1)
theorem AllIn.drop {n:Int} {xs:List Int} (h:AllIn n xs) (j:Nat):AllIn n (xs.drop j):=Zbq fun x hx=>h.mem (List.mem_of_mem_drop hx)
theorem AllIn.take {n:Int} {xs:List Int} (h:AllIn n xs) (j:Nat):AllIn n (xs.take j):=Zbq fun x hx=>h.mem (List.mem_of_mem_take hx)
theorem AllIn.append {n:Int} {xs ys:List Int} (h:AllIn n xs) (k:AllIn n ys):AllIn n (xs++ys):=Zbq fun x hx=>by
 rcases List.mem_append.1 hx with h' | h'
 ·
  exact h.mem h'
 ·
  exact k.mem h'
theorem ZeZ {a m:Int} (h:0≤a):Int.tmod a m=a%m:=Int.tmod_eq_emod_of_nonneg h
theorem Zf4 {a m:Int} (h:0≤a):Int.tdiv a m=a / m:=Int.tdiv_eq_ediv_of_nonneg h
end Go.Proofs.Ytdamfbighdkcbaa.V
set_option maxHeartbeats 2000000
set_option maxRecDepth 20000
namespace Go.Proofs.Ytdamfbighdkcbaa.V
open Go.RowKit Go.Proofs.Ytdamfbighdkcbaa.D Go.Proofs.Ytdamfbighdkcbaa.P
theorem Zgl {α : Type} (xs:List α) (d : α) (m:Nat) (hm:m < xs.length) :
  (xs.take m++List.replicate (xs.length - m) d).set m xs[m]=xs.take (m+1)++List.replicate (xs.length - (m+1)) d:=by
 have h1:(xs.take m).length=m:=by rw[List.length_take];omega
 rw[List.set_append,if_neg (by omega),h1,Nat.sub_self]
 rw[show xs.length - m=(xs.length - (m+1))+1 by omega,List.replicate_succ,List.set_cons_zero]
 rw[List.take_succ_eq_append_getElem hm,List.append_assoc];rfl
theorem Zh1 {α : Type} (xs:List α) (d : α) (m:Nat) (hm:m≤xs.length):(xs.take m++List.replicate (xs.length - m) d).length=xs.length:=by
 rw[List.length_append,List.length_take,List.length_replicate];omega
theorem ZiB (xs:List Int) (hl:xs.length≤1048576):ZW.f xs=some xs:=by
 rw[ZW.f_eq,Int.toNat_natCast]
 (with_reducible repeat (first|refine Zi (by first|assumption|omega|rfl|exact B_pos (by omega)) ?_|refine Zh (by first|assumption|omega|decide|exact B_not (by omega)) ?_|refine Zf (by first|assumption) ?_|dsimp only))
 have:=up xs.length (fun m=>ZW.l0 xs (m:Int) (xs.take m++List.replicate (xs.length - m) 0)) (fun m hm=>by
  have hw:wrapI ((m:Int)+1)=((m+1:Nat):Int):=by rw[w64 (by omega) (by omega)];omega
  have l1:=Zh1 xs (0:Int) m (by omega)
  rw[←Zgl xs 0 m hm,ZW.l0_eq,hw,Int.toNat_natCast,Za4 hm]
  ((with_reducible repeat (first|refine Zi (by first|assumption|omega|rfl|exact B_pos (by omega)) ?_|refine Zh (by first|assumption|omega|decide|exact B_not (by omega)) ?_|refine Zf (by first|assumption) ?_|dsimp only));first|done|(with_reducible rfl)|simp (disch:=omega) only[w64]|(show False;done)))
 simp only[List.take_zero,List.nil_append,Nat.sub_zero,List.take_length,Nat.sub_self,List.replicate_zero,List.append_nil,Int.natCast_zero]at this
 rw[this,ZW.l0_eq]
 ((with_reducible repeat (first|refine Zi (by first|assumption|omega|rfl|exact B_pos (by omega)) ?_|refine Zh (by first|assumption|omega|decide|exact B_not (by omega)) ?_|refine Zf (by first|assumption) ?_|dsimp only));first|done|(with_reducible rfl)|simp (disch:=omega) only[w64]|(show False;done))
theorem Zkn (g:List (List Int)) (hl:g.length≤1048576) (hr:∀r∈g,r.length≤1048576):ZU.f g=some g:=by
 rw[ZU.f_eq,Int.toNat_natCast]
 (with_reducible repeat (first|refine Zi (by first|assumption|omega|rfl|exact B_pos (by omega)) ?_|refine Zh (by first|assumption|omega|decide|exact B_not (by omega)) ?_|refine Zf (by first|assumption) ?_|dsimp only))
 have:=up g.length (fun m=>ZU.l0 g (m:Int) (g.take m++List.replicate (g.length - m) [])) (fun m hm=>by
  have hw:wrapI ((m:Int)+1)=((m+1:Nat):Int):=by rw[w64 (by omega) (by omega)];omega
  have l1:=Zh1 g ([]:List Int) m (by omega)
  have ht:=ZiB g[m] (hr _ (List.getElem_mem hm))
  rw[←Zgl g [] m hm,ZU.l0_eq,hw,Int.toNat_natCast,Za0 hm]
  ((with_reducible repeat (first|refine Zi (by first|assumption|omega|rfl|exact B_pos (by omega)) ?_|refine Zh (by first|assumption|omega|decide|exact B_not (by omega)) ?_|refine Zf (by first|assumption) ?_|dsimp only));first|done|(with_reducible rfl)|simp (disch:=omega) only[w64]|(show False;done)))
 simp only[List.take_zero,List.nil_append,Nat.sub_zero,List.take_length,Nat.sub_self,List.replicate_zero,List.append_nil,Int.natCast_zero]at this
 rw[this,ZU.l0_eq]
 ((with_reducible repeat (first|refine Zi (by first|assumption|omega|rfl|exact B_pos (by omega)) ?_|refine Zh (by first|assumption|omega|decide|exact B_not (by omega)) ?_|refine Zf (by first|assumption) ?_|dsimp only));first|done|(with_reducible rfl)|simp (disch:=omega) only[w64]|(show False;done))
theorem Zmc (g:List (List Int)) (hl:g.length≤1048576) (hr:∀r∈g,r.length≤1048576):ZaA.f g=some g:=by
 rw[ZaA.f_eq];((with_reducible repeat (first|refine Zi (by first|assumption|omega|rfl|exact B_pos (by omega)) ?_|refine Zh (by first|assumption|omega|decide|exact B_not (by omega)) ?_|refine Zf (by first|assumption|exact Zkn _ hl hr) ?_|dsimp only));first|done|(with_reducible rfl)|simp (disch:=omega) only[w64]|(show False;done))
theorem Zlb (m:Int) (u:List Int) (hl:u.length≤1048576):Zao.f m u=some (m,u):=by
 rw[Zao.f_eq];((with_reducible repeat (first|refine Zi (by first|assumption|omega|rfl|exact B_pos (by omega)) ?_|refine Zh (by first|assumption|omega|decide|exact B_not (by omega)) ?_|refine Zf (by first|assumption|exact ZiB _ hl) ?_|dsimp only));first|done|(with_reducible rfl)|simp (disch:=omega) only[w64]|(show False;done))
theorem Zh6 (xs ys:List Int) (hl:xs.length≤maxLen):ZV.f xs ys=some (B (xs=ys)):=by
 have hm:=Zbv
 rw[ZV.f_eq]
 by_cases h:(xs.length:Int)=ys.length
 rotate_left
 ·
  rw[B_neg fun e=>h (by rw[e])]
  ((with_reducible repeat (first|refine Zi (by first|assumption|omega|rfl|exact B_pos (by omega)) ?_|refine Zh (by first|assumption|omega|decide|exact B_not (by omega)) ?_|refine Zf (by first|assumption) ?_|dsimp only));first|done|(with_reducible rfl)|simp (disch:=omega) only[w64]|(show False;done))
 (with_reducible repeat (first|refine Zi (by first|assumption|omega|rfl|exact B_pos (by omega)) ?_|refine Zh (by first|assumption|omega|decide|exact B_not (by omega)) ?_|refine Zf (by first|assumption) ?_|dsimp only))
 rw[Zbt (show xs=ys↔∀i:Int,0≤i→i < xs.length→rd xs i=rd ys i from⟨fun e i _ _=>by rw[e],fun e=>Zh8 (by omega) e⟩)]
 refine scanT xs.length (fun i=>ZV.l0 xs ys i) (fun i=>rd xs i=rd ys i) (fun i i0 i1 _ => ?_) (fun _=>by(rw[ZV.l0_eq]);((with_reducible repeat (first|refine Zi (by first|assumption|omega|rfl|exact B_pos (by omega)) ?_|refine Zh (by first|assumption|omega|decide|exact B_not (by omega)) ?_|refine Zf (by first|assumption) ?_|dsimp only));first|done|(with_reducible rfl)|simp (disch:=omega) only[w64]|(show False;done)))
 refine⟨fun h => ?_,fun h => ?_⟩ <;> (rw[ZV.l0_eq]) <;> ((with_reducible repeat (first|refine Zi (by first|assumption|omega|rfl|exact B_pos (by omega)) ?_|refine Zh (by first|assumption|omega|decide|exact B_not (by omega)) ?_|refine Zf (by first|assumption) ?_|dsimp only));first|done|(with_reducible rfl)|simp (disch:=omega) only[w64]|(show False;done))
theorem ZjE (xs ys:List (List Int)) (hl:xs.length≤maxLen) (hr:∀r∈xs,r.length≤maxLen):ZS.f xs ys=some (B (xs=ys)):=by
 have hm:=Zbv
 rw[ZS.f_eq]
 by_cases h:(xs.length:Int)=ys.length
 rotate_left
 ·
  rw[B_neg fun e=>h (by rw[e])]
  ((with_reducible repeat (first|refine Zi (by first|assumption|omega|rfl|exact B_pos (by omega)) ?_|refine Zh (by first|assumption|omega|decide|exact B_not (by omega)) ?_|refine Zf (by first|assumption) ?_|dsimp only));first|done|(with_reducible rfl)|simp (disch:=omega) only[w64]|(show False;done))
 (with_reducible repeat (first|refine Zi (by first|assumption|omega|rfl|exact B_pos (by omega)) ?_|refine Zh (by first|assumption|omega|decide|exact B_not (by omega)) ?_|refine Zf (by first|assumption) ?_|dsimp only))
 rw[Zbt (show xs=ys↔∀i:Int,0≤i→i < xs.length→row xs i=row ys i from⟨fun e i _ _=>by rw[e],fun e=>ZlN (by omega) e⟩)]
 refine scanT xs.length (fun i=>ZS.l0 xs ys i) (fun i=>row xs i=row ys i) (fun i i0 i1 _ => ?_) (fun _=>by(rw[ZS.l0_eq]);((with_reducible repeat (first|refine Zi (by first|assumption|omega|rfl|exact B_pos (by omega)) ?_|refine Zh (by first|assumption|omega|decide|exact B_not (by omega)) ?_|refine Zf (by first|assumption) ?_|dsimp only));first|done|(with_reducible rfl)|simp (disch:=omega) only[w64]|(show False;done)))
 have he:=Zh6 (row xs i) (row ys i) (hr _ (ZdX i0 i1))
 refine⟨fun h => ?_,fun h => ?_⟩
 ·
  rw[B_pos h]at he
  (rw[ZS.l0_eq])
  ((with_reducible repeat (first|refine Zi (by first|assumption|omega|rfl|exact B_pos (by omega)) ?_|refine Zh (by first|assumption|omega|decide|exact B_not (by omega)) ?_|refine Zf (by first|assumption) ?_|dsimp only));first|done|(with_reducible rfl)|simp (disch:=omega) only[w64]|(show False;done))
 ·
  rw[B_neg h]at he
  (rw[ZS.l0_eq])
  ((with_reducible repeat (first|refine Zi (by first|assumption|omega|rfl|exact B_pos (by omega)) ?_|refine Zh (by first|assumption|omega|decide|exact B_not (by omega)) ?_|refine Zf (by first|assumption) ?_|dsimp only));first|done|(with_reducible rfl)|simp (disch:=omega) only[w64]|(show False;done))
theorem ZlM (xs ys:List (List Int)) (hl:xs.length≤maxLen) (hr:∀r∈xs,r.length≤maxLen):ZaC.f xs ys=some (B (xs=ys)):=by
 have he:=ZjE xs ys hl hr
 rw[ZaC.f_eq,he]
 by_cases h:xs=ys
 ·
  rw[B_pos h];rfl
 ·
  rw[B_neg h];rfl
theorem ZkK (m n:Int) (u v:List Int) (hl:u.length≤maxLen):Zar.f m u n v=some (B (m=n∧u=v)):=by
 have he:=Zh6 u v hl
 rw[Zar.f_eq]
 by_cases h:m=n∧u=v
 ·
  rw[B_pos h.2]at he;rw[B_pos h];((with_reducible repeat (first|refine Zi (by first|assumption|omega|rfl|exact B_pos (by omega)) ?_|refine Zh (by first|assumption|omega|decide|exact B_not (by omega)) ?_|refine Zf (by first|assumption) ?_|dsimp only));first|done|(with_reducible rfl)|simp (disch:=omega) only[w64]|(show False;done))
 ·
  rw[B_neg h]
  by_cases h1:m=n
  ·
   rw[B_neg fun k=>h ⟨h1,k⟩]at he;((with_reducible repeat (first|refine Zi (by first|assumption|omega|rfl|exact B_pos (by omega)) ?_|refine Zh (by first|assumption|omega|decide|exact B_not (by omega)) ?_|refine Zf (by first|assumption) ?_|dsimp only));first|done|(with_reducible rfl)|simp (disch:=omega) only[w64]|(show False;done))
  ·
   ((with_reducible repeat (first|refine Zi (by first|assumption|omega|rfl|exact B_pos (by omega)) ?_|refine Zh (by first|assumption|omega|decide|exact B_not (by omega)) ?_|refine Zf (by first|assumption) ?_|dsimp only));first|done|(with_reducible rfl)|simp (disch:=omega) only[w64]|(show False;done))
theorem Zja (xs:List (List Int)) (hl:xs.length≤maxLen) (hr:∀r∈xs,r.length≤maxLen):ZaC.f xs xs=some true:=by rw[ZlM xs xs hl hr,B_pos rfl]
theorem ZhF (m:Int) (u:List Int) (hl:u.length≤maxLen):Zar.f m u m u=some true:=by rw[ZkK m m u u hl,B_pos ⟨rfl,rfl⟩]
theorem Ziz (xs:List Int) (left:Int) (hl:xs.length≤maxLen) (l0:0≤left) (l1:left≤1048576) :
  ∃t,Zaj.f xs left=some t∧(t < 0∨(0≤t∧t≤1048576∧xs.length≤1048576)):=by
 have hm:=Zbv
 rw[Zaj.f_eq,w64 (by omega) (by omega)]
 by_cases h:left - (xs.length:Int) < 0
 ·
  exact⟨_,if_pos h,.inl (by omega)⟩
 ·
  exact⟨_,if_neg h,.inr (by omega)⟩
theorem Zkl (g:List (List Int)) (left:Int) (hl:g.length≤maxLen) (hr:∀r∈g,r.length≤maxLen) (l0:0≤left) (l1:left≤1048576) :
  ∃t,ZT.f g left=some t∧(t < 0∨(0≤t∧t≤1048576∧g.length≤1048576∧∀r∈g,r.length≤1048576)):=by
 have hm:=Zbv
 rw[ZT.f_eq,w64 (by omega) (by omega)]
 by_cases h:left - (g.length:Int) < 0
 ·
  exact⟨_,if_pos h,.inl (by omega)⟩
 rw[if_neg h]
 have H:∀d m:Nat,m+d=g.length→∀s:Int,0≤s→s≤1048576→(∀j,j < m→(row g j).length≤1048576)→∃t,ZT.l0 g s (m:Int)=some t∧(t < 0∨(0≤t∧t≤1048576∧g.length≤1048576∧∀r∈g,r.length≤1048576)):=by
  intro d
  induction d with
  | zero =>
   intro m hd s s0 s1 hs
   obtain rfl:m=g.length:=by omega
   refine⟨s,by(rw[ZT.l0_eq]);((with_reducible repeat (first|refine Zi (by first|assumption|omega|rfl|exact B_pos (by omega)) ?_|refine Zh (by first|assumption|omega|decide|exact B_not (by omega)) ?_|refine Zf (by first|assumption) ?_|dsimp only));first|done|(with_reducible rfl)|simp (disch:=omega) only[w64]|(show False;done)),.inr ⟨s0,s1,by omega,fun r hr' => ?_⟩⟩
   obtain⟨i,i0,i1,rfl⟩:=Zdm hr'
   have:=hs i.toNat (by omega)
   rwa[show((i.toNat:Nat):Int)=i by omega]at this
  | succ d ih =>
   intro m hd s s0 s1 hs
   obtain⟨t,ht,h⟩:=Ziz (row g m) s (hr _ (ZdX (by omega) (by omega))) s0 s1
   have hw:wrapI ((m:Int)+1)=((m+1:Nat):Int):=by rw[w64 (by omega) (by omega)];omega
   rcases h with h|⟨h0,h1,h2⟩
   ·
    refine⟨-1,?_,.inl (by omega)⟩
    (rw[ZT.l0_eq])
    ((with_reducible repeat (first|refine Zi (by first|assumption|omega|rfl|exact B_pos (by omega)) ?_|refine Zh (by first|assumption|omega|decide|exact B_not (by omega)) ?_|refine Zf (by first|assumption) ?_|dsimp only));first|done|(with_reducible rfl)|simp (disch:=omega) only[w64]|(show False;done))
   ·
    obtain⟨t', ht', h'⟩:=ih (m+1) (by omega) t h0 h1 (fun j hj=>by
     by_cases e:j=m
     ·
      rw[e];exact h2
     ·
      exact hs j (by omega))
    refine⟨t', ?_,h'⟩
    (rw[ZT.l0_eq,hw])
    (with_reducible repeat (first|refine Zi (by first|assumption|omega|rfl|exact B_pos (by omega)) ?_|refine Zh (by first|assumption|omega|decide|exact B_not (by omega)) ?_|refine Zf (by first|assumption) ?_|dsimp only))
    exact ht'
 have:=H g.length 0 (by omega) (left - g.length) (by omega) (by omega) (fun j hj=>by omega)
 exact this
theorem Zmb (g:List (List Int)) (left:Int) (hl:g.length≤maxLen) (hr:∀r∈g,r.length≤maxLen) (l0:0≤left) (l1:left≤1048576) :
  ∃t,ZaF.f g left=some t∧(t < 0∨(0≤t∧t≤1048576∧g.length≤1048576∧∀r∈g,r.length≤1048576)):=by
 obtain⟨t,ht,h⟩:=Zkl g left hl hr l0 l1
 rw[ZaF.f_eq]
 rcases h with h|h
 ·
  exact⟨-1,by((with_reducible repeat (first|refine Zi (by first|assumption|omega|rfl|exact B_pos (by omega)) ?_|refine Zh (by first|assumption|omega|decide|exact B_not (by omega)) ?_|refine Zf (by first|assumption) ?_|dsimp only));first|done|(with_reducible rfl)|simp (disch:=omega) only[w64]|(show False;done)),.inl (by omega)⟩
 ·
  have:=h.1
  exact⟨t,by((with_reducible repeat (first|refine Zi (by first|assumption|omega|rfl|exact B_pos (by omega)) ?_|refine Zh (by first|assumption|omega|decide|exact B_not (by omega)) ?_|refine Zf (by first|assumption) ?_|dsimp only));first|done|(with_reducible rfl)|simp (disch:=omega) only[w64]|(show False;done)),.inr h⟩
theorem Zk9 (m:Int) (u:List Int) (left:Int) (hl:u.length≤maxLen) (l0:0≤left) (l1:left≤1048576) :
  ∃t,Zay.f m u left=some t∧(t < 0∨(0≤t∧t≤1048576∧u.length≤1048576)):=by
 obtain⟨t,ht,h⟩:=Ziz u left hl l0 l1
 rw[Zay.f_eq]
 rcases h with h|h
 ·
  exact⟨-1,by((with_reducible repeat (first|refine Zi (by first|assumption|omega|rfl|exact B_pos (by omega)) ?_|refine Zh (by first|assumption|omega|decide|exact B_not (by omega)) ?_|refine Zf (by first|assumption) ?_|dsimp only));first|done|(with_reducible rfl)|simp (disch:=omega) only[w64]|(show False;done)),.inl (by omega)⟩
 ·
  have:=h.1
  exact⟨t,by((with_reducible repeat (first|refine Zi (by first|assumption|omega|rfl|exact B_pos (by omega)) ?_|refine Zh (by first|assumption|omega|decide|exact B_not (by omega)) ?_|refine Zf (by first|assumption) ?_|dsimp only));first|done|(with_reducible rfl)|simp (disch:=omega) only[w64]|(show False;done)),.inr h⟩
def tot:List (List Int)→Nat
 | []=>0
 | r :: g=>r.length+tot g
theorem ZmC (b:Nat) (g:List (List Int)) (h:∀r∈g,r.length≤b):tot g≤g.length*b:=by
 induction g with
 | nil=>simp[tot]
 | cons r g ih =>
  have h1:=ih fun r hr=>h r (List.mem_cons_of_mem _ hr)
  have h2:=h r (List.mem_cons_self ..)
  rw[List.length_cons,Nat.succ_mul,tot]
  omega
theorem Zko {g:List (List Int)} (h1:g.length≤1048576) (h2:∀r∈g,r.length≤1048576):tot g≤1099511627776 :=
 Nat.le_trans (ZmC 1048576 g h2) (Nat.mul_le_mul_right 1048576 h1)
end Go.Proofs.Ytdamfbighdkcbaa.V
namespace Go.Proofs.Ytdamfbighdkcbaa.V
open Go.RowKit Go.Proofs.Ytdamfbighdkcbaa.D Go.Proofs.Ytdamfbighdkcbaa.P
theorem areIn (n:Int) (xs:List Int) (hl:xs.length≤maxLen):Zat.f n xs=some (B (AllIn n xs)):=by
 have hm:=Zbv
 rw[Zat.f_eq]
 refine scanT xs.length (fun i=>Zat.l0 n xs (xs.length:Int) i) (fun i=>0≤rd xs i∧rd xs i < n) (fun i h0 h1 _ => ?_) (fun _ => ?_)
 ·
  refine⟨fun h => ?_,fun h => ?_⟩ <;> (rw[Zat.l0_eq])
  ·
   ((with_reducible repeat (first|refine Zi (by first|assumption|omega|rfl|exact B_pos (by omega)) ?_|refine Zh (by first|assumption|omega|decide|exact B_not (by omega)) ?_|refine Zf (by first|assumption) ?_|dsimp only));first|done|(with_reducible rfl)|simp (disch:=omega) only[w64]|(show False;done))
  ·
   by_cases h2:rd xs i < 0 <;> ((with_reducible repeat (first|refine Zi (by first|assumption|omega|rfl|exact B_pos (by omega)) ?_|refine Zh (by first|assumption|omega|decide|exact B_not (by omega)) ?_|refine Zf (by first|assumption) ?_|dsimp only));first|done|(with_reducible rfl)|simp (disch:=omega) only[w64]|(show False;done))
 ·
  (rw[Zat.l0_eq])
  ((with_reducible repeat (first|refine Zi (by first|assumption|omega|rfl|exact B_pos (by omega)) ?_|refine Zh (by first|assumption|omega|decide|exact B_not (by omega)) ?_|refine Zf (by first|assumption) ?_|dsimp only));first|done|(with_reducible rfl)|simp (disch:=omega) only[w64]|(show False;done))
theorem index_ (xs:List Int) (x:Int) (hl:xs.length≤maxLen) :
  ((∀i:Int,0≤i→i < xs.length→rd xs i≠x)∧Zv.f xs x=some (-1)) ∨
  ∃i:Int,0≤i∧i < xs.length∧(∀j:Int,0≤j→j < i→rd xs j≠x)∧rd xs i=x∧Zv.f xs x=some i:=by
 have hm:=Zbv
 rw[Zv.f_eq]
 suffices H:∀d m:Nat,m+d=xs.length→(∀j:Int,0≤j→j < m→rd xs j≠x) →
   ((∀i:Int,0≤i→i < xs.length→rd xs i≠x)∧Zv.l0 xs x (xs.length:Int) m=some (-1)) ∨
   ∃i:Int,0≤i∧i < xs.length∧(∀j:Int,0≤j→j < i→rd xs j≠x)∧rd xs i=x∧Zv.l0 xs x (xs.length:Int) m=some i from
  H xs.length 0 (by omega) (fun j h0 h1=>by omega)
 intro d
 induction d with
 | zero =>
  intro m hd hp
  obtain rfl:m=xs.length:=by omega
  refine .inl ⟨hp,?_⟩
  (rw[Zv.l0_eq])
  ((with_reducible repeat (first|refine Zi (by first|assumption|omega|rfl|exact B_pos (by omega)) ?_|refine Zh (by first|assumption|omega|decide|exact B_not (by omega)) ?_|refine Zf (by first|assumption) ?_|dsimp only));first|done|(with_reducible rfl)|simp (disch:=omega) only[w64]|(show False;done))
 | succ d ih =>
  intro m hd hp
  by_cases h2:x=rd xs m
  ·
   refine .inr ⟨m,by omega,by omega,hp,h2.symm,?_⟩
   (rw[Zv.l0_eq])
   ((with_reducible repeat (first|refine Zi (by first|assumption|omega|rfl|exact B_pos (by omega)) ?_|refine Zh (by first|assumption|omega|decide|exact B_not (by omega)) ?_|refine Zf (by first|assumption) ?_|dsimp only));first|done|(with_reducible rfl)|simp (disch:=omega) only[w64]|(show False;done))
  ·
   have st:Zv.l0 xs x (xs.length:Int) m=Zv.l0 xs x (xs.length:Int) ((m+1:Nat):Int):=by
    rw[Int.natCast_add,Int.natCast_one]
    (rw[Zv.l0_eq])
    ((with_reducible repeat (first|refine Zi (by first|assumption|omega|rfl|exact B_pos (by omega)) ?_|refine Zh (by first|assumption|omega|decide|exact B_not (by omega)) ?_|refine Zf (by first|assumption) ?_|dsimp only));first|done|(with_reducible rfl)|simp (disch:=omega) only[w64]|(show False;done))
   rw[st]
   refine ih (m+1) (by omega) fun j k0 k1 => ?_
   by_cases e:j=m
   ·
    rw[e];exact fun h=>h2 h.symm
   ·
    exact hp j k0 (by omega)
theorem Zjx (xs:List Int) (x:Int) (hl:xs.length≤maxLen):ZK.f xs x=some (B (∃i:Int,0≤i∧i < xs.length∧rd xs i=x)):=by
 rw[ZK.f_eq]
 rcases index_ xs x hl with ⟨h,e⟩|⟨i,h0,h1,_,h2,e⟩
 ·
  rw[e,B_neg fun⟨i,h0,h1,h2⟩=>h i h0 h1 h2];rfl
 ·
  rw[e,B_pos ⟨i,h0,h1,h2⟩];simp[h0]
structure Grp (g:List (List Int)):Prop where
 n1:1≤g.length
 n8:g.length≤8
 row:∀a:Int,0≤a→a < g.length→(row g a).length=g.length
 ent:∀a b:Int,0≤a→a < g.length→0≤b→b < g.length→0≤T g a b∧T g a b < g.length
 one:∀a:Int,0≤a→a < g.length→T g 0 a=a
 one' : ∀a:Int,0≤a→a < g.length→T g a 0=a
 assoc:∀a b c:Int,0≤a→a < g.length→0≤b→b < g.length→0≤c→c < g.length→T g (T g a b) c=T g a (T g b c)
 inv:∀a:Int,0≤a→a < g.length→∃b:Int,0≤b∧b < g.length∧T g a b=0
theorem Grp.inv2 {g:List (List Int)} (h:Grp g) {a:Int} (h0:0≤a) (h1:a < g.length):∃b:Int,0≤b∧b < g.length∧T g a b=0∧T g b a=0:=by
 obtain⟨b,b0,b1,hb⟩:=h.inv a h0 h1
 obtain⟨c,c0,c1,hc⟩:=h.inv b b0 b1
 refine⟨b,b0,b1,hb,?_⟩
 have hac:c=a:=by
  have e1:=h.assoc a b c h0 h1 b0 b1 c0 c1
  rw[hb,hc,h.one c c0 c1,h.one' a h0 h1]at e1
  exact e1
 rw[←hac];exact hc
theorem Zis {g:List (List Int)} (hr:∀r∈g,r.length≤maxLen) {a:Int} (h0:0≤a) (h1:a < g.length):(row g a).length≤maxLen:=hr _ (ZdX h0 h1)
def Tab (g:List (List Int)):Prop:=∀a:Int,0≤a→a < g.length→(row g a).length=g.length∧AllIn g.length (row g a)
def Law (g:List (List Int)) (a:Int):Prop:=T g 0 a=a∧T g a 0=a∧(∃b:Int,0≤b∧b < g.length∧T g a b=0)∧∀b:Int,0≤b→b < g.length→∀c:Int,0≤c→c < g.length→T g (T g a b) c=T g a (T g b c)
theorem Zhh (g:List (List Int)):Grp g↔(1≤g.length∧g.length≤8)∧Tab g∧∀a:Int,0≤a→a < g.length→Law g a:=by
 constructor
 ·
  intro h
  refine⟨⟨h.n1,h.n8⟩,fun a h0 h1=>⟨h.row a h0 h1,fun i i0 i1 => ?_⟩,fun a h0 h1=>⟨h.one a h0 h1,h.one' a h0 h1,h.inv a h0 h1,fun b b0 b1 c c0 c1=>h.assoc a b c h0 h1 b0 b1 c0 c1⟩⟩
  have:=h.row a h0 h1
  exact h.ent a i h0 h1 i0 (by omega)
 ·
  rintro⟨⟨h1,h8⟩,ht,hl⟩
  refine⟨h1,h8,fun a a0 a1=>(ht a a0 a1).1,fun a b a0 a1 b0 b1 => ?_,fun a a0 a1=>(hl a a0 a1).1,fun a a0 a1=>(hl a a0 a1).2.1,fun a b c a0 a1 b0 b1 c0 c1=>(hl a a0 a1).2.2.2 b b0 b1 c c0 c1,fun a a0 a1=>(hl a a0 a1).2.2.1⟩
  have:=(ht a a0 a1).1
  exact(ht a a0 a1).2 b b0 (by omega)
theorem ZlS (g:List (List Int)) (hl:g.length≤maxLen) (hr:∀r∈g,r.length≤maxLen):Zo.f g=some (B (Grp g)):=by
 have hm:=Zbv
 rw[Zbt (Zhh g)]
 (rw[Zo.f_eq])
 by_cases c1:(g.length:Int) < 1∨(g.length:Int) > 8
 ·
  rw[B_neg fun h=>by omega]
  by_cases c2:(g.length:Int) < 1 <;> ((with_reducible repeat (first|refine Zi (by first|assumption|omega|rfl|exact B_pos (by omega)) ?_|refine Zh (by first|assumption|omega|decide|exact B_not (by omega)) ?_|refine Zf (by first|assumption|exact Z8.f_eq _) ?_|dsimp only));first|done|(with_reducible rfl)|simp (disch:=omega) only[w64]|(show False;done))
 rw[Zbt (show((1≤g.length∧g.length≤8)∧Tab g∧∀a:Int,0≤a→a < g.length→Law g a)↔(Tab g∧∀a:Int,0≤a→a < g.length→Law g a)from⟨fun h=>h.2,fun h=>⟨by omega,h⟩⟩)]
 (with_reducible repeat (first|refine Zi (by first|assumption|omega|rfl|exact B_pos (by omega)) ?_|refine Zh (by first|assumption|omega|decide|exact B_not (by omega)) ?_|refine Zf (by first|assumption|exact Z8.f_eq _) ?_|dsimp only))
 refine scanB g.length (fun i=>Zo.l0 (g.length:Int) g (g.length:Int) i g) (fun a=>(row g a).length=g.length∧AllIn g.length (row g a)) _ (fun i h0 h1 _ => ?_) (fun ht => ?_)
 ·
  have ha:=areIn g.length (row g i) (Zis hr h0 h1)
  refine⟨fun h => ?_,fun h => ?_⟩ <;> (rw[Zo.l0_eq])
  ·
   have h1:=h.1
   rw[B_pos h.2]at ha
   ((with_reducible repeat (first|refine Zi (by first|assumption|omega|rfl|exact B_pos (by omega)) ?_|refine Zh (by first|assumption|omega|decide|exact B_not (by omega)) ?_|refine Zf (by first|assumption) ?_|dsimp only));first|done|(with_reducible rfl)|simp (disch:=omega) only[w64]|(show False;done))
  ·
   by_cases h2:((row g i).length:Int)=g.length
   ·
    rw[B_neg fun h3=>h ⟨by omega,h3⟩]at ha
    ((with_reducible repeat (first|refine Zi (by first|assumption|omega|rfl|exact B_pos (by omega)) ?_|refine Zh (by first|assumption|omega|decide|exact B_not (by omega)) ?_|refine Zf (by first|assumption) ?_|dsimp only));first|done|(with_reducible rfl)|simp (disch:=omega) only[w64]|(show False;done))
   ·
    ((with_reducible repeat (first|refine Zi (by first|assumption|omega|rfl|exact B_pos (by omega)) ?_|refine Zh (by first|assumption|omega|decide|exact B_not (by omega)) ?_|refine Zf (by first|assumption) ?_|dsimp only));first|done|(with_reducible rfl)|simp (disch:=omega) only[w64]|(show False;done))
 (rw[Zo.l0_eq])
 (with_reducible repeat (first|refine Zi (by first|assumption|omega|rfl|exact B_pos (by omega)) ?_|refine Zh (by first|assumption|omega|decide|exact B_not (by omega)) ?_|refine Zf (by first|assumption) ?_|dsimp only))
 refine scanT g.length (fun i=>Zo.l1 (g.length:Int) (g.length:Int) i g) (Law g) (fun a a0 a1 _ => ?_) (fun _ => ?_)
 rotate_left
 ·
  (rw[Zo.l1_eq])
  ((with_reducible repeat (first|refine Zi (by first|assumption|omega|rfl|exact B_pos (by omega)) ?_|refine Zh (by first|assumption|omega|decide|exact B_not (by omega)) ?_|refine Zf (by first|assumption) ?_|dsimp only));first|done|(with_reducible rfl)|simp (disch:=omega) only[w64]|(show False;done))
 have hlen:∀x:Int,0≤x→x < g.length→((row g x).length:Int)=g.length:=fun x x0 x1=>by rw[(ht x x0 x1).1]
 have hent:∀x y:Int,0≤x→x < g.length→0≤y→y < g.length→0≤T g x y∧T g x y < g.length:=fun x y x0 x1 y0 y1=>(ht x x0 x1).2 y y0 (by rw[hlen x x0 x1];exact y1)
 have l0:=hlen 0 (by omega) (by omega)
 have la:=hlen a a0 a1
 have hc:=Zjx (row g a) 0 (Zis hr a0 a1)
 rw[Zbt (show(∃i:Int,0≤i∧i < (row g a).length∧rd (row g a) i=0)↔∃b:Int,0≤b∧b < g.length∧T g a b=0 by rw[la];exact Iff.rfl)]at hc
 by_cases h2:T g 0 a=a
 rotate_left
 ·
  refine⟨fun h=>absurd h.1 h2,fun _ => ?_⟩
  (rw[Zo.l1_eq])
  ((with_reducible repeat (first|refine Zi (by first|assumption|omega|rfl|exact B_pos (by omega)) ?_|refine Zh (by first|assumption|omega|decide|exact B_not (by omega)) ?_|refine Zf (by first|assumption) ?_|dsimp only));first|done|(with_reducible rfl)|simp (disch:=omega) only[w64]|(show False;done))
 by_cases h3:T g a 0=a
 rotate_left
 ·
  refine⟨fun h=>absurd h.2.1 h3,fun _ => ?_⟩
  (rw[Zo.l1_eq])
  ((with_reducible repeat (first|refine Zi (by first|assumption|omega|rfl|exact B_pos (by omega)) ?_|refine Zh (by first|assumption|omega|decide|exact B_not (by omega)) ?_|refine Zf (by first|assumption) ?_|dsimp only));first|done|(with_reducible rfl)|simp (disch:=omega) only[w64]|(show False;done))
 by_cases h4:∃b:Int,0≤b∧b < g.length∧T g a b=0
 rotate_left
 ·
  refine⟨fun h=>absurd h.2.2.1 h4,fun _ => ?_⟩
  rw[B_neg h4]at hc
  (rw[Zo.l1_eq])
  ((with_reducible repeat (first|refine Zi (by first|assumption|omega|rfl|exact B_pos (by omega)) ?_|refine Zh (by first|assumption|omega|decide|exact B_not (by omega)) ?_|refine Zf (by first|assumption) ?_|dsimp only));first|done|(with_reducible rfl)|simp (disch:=omega) only[w64]|(show False;done))
 rw[B_pos h4]at hc
 have inner:=scanI g.length (fun b=>Zo.l2 (g.length:Int) a (g.length:Int) a (g.length:Int) b g) (fun b=>∀c:Int,0≤c→c < g.length→T g (T g a b) c=T g a (T g b c)) (some false) (Zo.l1 (g.length:Int) (g.length:Int) (a+1) g)
  (fun b b0 b1 _=>by
   obtain⟨e0,e1⟩:=hent a b a0 a1 b0 b1
   have le:=hlen _ e0 e1
   have lb:=hlen b b0 b1
   have:=scanI g.length (fun c=>Zo.l3 (g.length:Int) a b (g.length:Int) a (g.length:Int) b (g.length:Int) c g) (fun c=>T g (T g a b) c=T g a (T g b c)) (some false) (Zo.l2 (g.length:Int) a (g.length:Int) a (g.length:Int) (b+1) g)
    (fun c c0 c1 _=>by
     obtain⟨f0,f1⟩:=hent b c b0 b1 c0 c1
     refine⟨fun h => ?_,fun h => ?_⟩ <;> (rw[Zo.l3_eq]) <;> ((with_reducible repeat (first|refine Zi (by first|assumption|omega|rfl|exact B_pos (by omega)) ?_|refine Zh (by first|assumption|omega|decide|exact B_not (by omega)) ?_|refine Zf (by first|assumption) ?_|dsimp only));first|done|(with_reducible rfl)|simp (disch:=omega) only[w64]|(show False;done))) (fun _=>by(rw[Zo.l3_eq]);((with_reducible repeat (first|refine Zi (by first|assumption|omega|rfl|exact B_pos (by omega)) ?_|refine Zh (by first|assumption|omega|decide|exact B_not (by omega)) ?_|refine Zf (by first|assumption) ?_|dsimp only));first|done|(with_reducible rfl)|simp (disch:=omega) only[w64]|(show False;done)))
   refine⟨fun h => ?_,fun h => ?_⟩ <;> (rw[Zo.l2_eq])
   ·
    (with_reducible repeat (first|refine Zi (by first|assumption|omega|rfl|exact B_pos (by omega)) ?_|refine Zh (by first|assumption|omega|decide|exact B_not (by omega)) ?_|refine Zf (by first|assumption) ?_|dsimp only))
    exact this.1 h
   ·
    (with_reducible repeat (first|refine Zi (by first|assumption|omega|rfl|exact B_pos (by omega)) ?_|refine Zh (by first|assumption|omega|decide|exact B_not (by omega)) ?_|refine Zf (by first|assumption) ?_|dsimp only))
    exact this.2 h) (fun _=>by(rw[Zo.l2_eq]);((with_reducible repeat (first|refine Zi (by first|assumption|omega|rfl|exact B_pos (by omega)) ?_|refine Zh (by first|assumption|omega|decide|exact B_not (by omega)) ?_|refine Zf (by first|assumption) ?_|dsimp only));first|done|(with_reducible rfl)|simp (disch:=omega) only[w64]|(show False;done)))
 refine⟨fun h => ?_,fun h => ?_⟩ <;> (rw[Zo.l1_eq]) <;> (with_reducible repeat (first|refine Zi (by first|assumption|omega|rfl|exact B_pos (by omega)) ?_|refine Zh (by first|assumption|omega|decide|exact B_not (by omega)) ?_|refine Zf (by first|assumption) ?_|dsimp only))
 ·
  exact inner.1 h.2.2.2
 ·
  exact inner.2 fun k=>h ⟨h2,h3,h4,k⟩
end Go.Proofs.Ytdamfbighdkcbaa.V
namespace Go.Proofs.Ytdamfbighdkcbaa.V
open Go.RowKit Go.Proofs.Ytdamfbighdkcbaa.D Go.Proofs.Ytdamfbighdkcbaa.P
theorem In_ (x lo hi:Int):ZaE.f x lo hi=some (B (lo≤x∧x≤hi)):=by
 rw[ZaE.f_eq]
 by_cases h:x≥lo
 ·
  rw[if_pos h,Zft,Zbt (show x≤hi↔(lo≤x∧x≤hi)from⟨fun h' => ⟨h,h'⟩,fun h' => h'.2⟩)]
 ·
  rw[if_neg h,B_neg (fun h' => h h'.1)]
def LawS (g:List (List Int)) (a:Int):Prop:=T g 0 a=a∧T g a 0=a∧(∀b:Int,0≤b→b < g.length→∀c:Int,0≤c→c < g.length→T g (T g a b) c=T g a (T g b c))∧∃b:Int,0≤b∧b < g.length∧T g a b=0∧T g b a=0
theorem ZkO (g:List (List Int)):Grp g↔(1≤g.length∧g.length≤8)∧Tab g∧∀a:Int,0≤a→a < g.length→LawS g a:=by
 rw[Zhh]
 constructor
 ·
  intro h
  have hg:=(Zhh g).2 h
  refine⟨h.1,h.2.1,fun a a0 a1 => ?_⟩
  obtain⟨h1,h2,_,h4⟩:=h.2.2 a a0 a1
  exact⟨h1,h2,h4,hg.inv2 a0 a1⟩
 ·
  rintro⟨h1,h2,h3⟩
  refine⟨h1,h2,fun a a0 a1 => ?_⟩
  obtain⟨k1,k2,k3,b,b0,b1,hb,_⟩:=h3 a a0 a1
  exact⟨k1,k2,⟨b,b0,b1,hb⟩,k3⟩
theorem Is_ (g:List (List Int)):Zs.f g=some (B (Grp g)):=by
 rw[Zbt (ZkO g)]
 (rw[Zs.f_eq])
 by_cases c1:1≤(g.length:Int)∧(g.length:Int)≤8
 rotate_left
 ·
  rw[B_neg fun h=>c1 (by omega)]
  ((with_reducible repeat (first|refine Zi (by first|assumption|omega|rfl|exact B_pos (by omega)) ?_|refine Zh (by first|assumption|omega|decide|exact B_not (by omega)) ?_|refine Zf (by first|assumption|exact In_ _ _ _) ?_|dsimp only));first|done|(with_reducible rfl)|simp (disch:=omega) only[w64]|(show False;done))
 rw[Zbt (show((1≤g.length∧g.length≤8)∧Tab g∧∀a:Int,0≤a→a < g.length→LawS g a)↔(Tab g∧∀a:Int,0≤a→a < g.length→LawS g a)from⟨fun h=>h.2,fun h=>⟨by omega,h⟩⟩)]
 (with_reducible repeat (first|refine Zi (by first|assumption|omega|rfl|exact B_pos (by omega)) ?_|refine Zh (by first|assumption|omega|decide|exact B_not (by omega)) ?_|refine Zf (by first|assumption|exact In_ _ _ _) ?_|dsimp only))
 have hw1:wrapI ((g.length:Int) - 1)=g.length - 1:=w64 (by omega) (by omega)
 refine scanB g.length (fun i=>Zs.l0 (g.length:Int) i g) (fun a=>(row g a).length=g.length∧AllIn g.length (row g a)) (∀a:Int,0≤a→a < g.length→LawS g a) (fun a a0 a1 _ => ?_) (fun ht => ?_)
 ·
  by_cases h2:((row g a).length:Int)=g.length
  rotate_left
  ·
   refine⟨fun h=>absurd h.1 (by omega),fun _ => ?_⟩
   (rw[Zs.l0_eq])
   ((with_reducible repeat (first|refine Zi (by first|assumption|omega|rfl|exact B_pos (by omega)) ?_|refine Zh (by first|assumption|omega|decide|exact B_not (by omega)) ?_|refine Zf (by first|assumption) ?_|dsimp only));first|done|(with_reducible rfl)|simp (disch:=omega) only[w64]|(show False;done))
  have inner:=scanI g.length (fun b=>Zs.l1 (g.length:Int) a b g) (fun b=>0≤T g a b∧T g a b < g.length) (some false) (Zs.l0 (g.length:Int) (a+1) g)
   (fun b b0 b1 _=>by refine⟨fun h => ?_,fun h => ?_⟩ <;> (rw[Zs.l1_eq,hw1]) <;> ((with_reducible repeat (first|refine Zi (by first|assumption|omega|rfl|exact B_pos (by omega)) ?_|refine Zh (by first|assumption|omega|decide|exact B_not (by omega)) ?_|refine Zf (by first|assumption|exact In_ _ _ _) ?_|dsimp only));first|done|(with_reducible rfl)|simp (disch:=omega) only[w64]|(show False;done))) (fun _=>by(rw[Zs.l1_eq]);((with_reducible repeat (first|refine Zi (by first|assumption|omega|rfl|exact B_pos (by omega)) ?_|refine Zh (by first|assumption|omega|decide|exact B_not (by omega)) ?_|refine Zf (by first|assumption) ?_|dsimp only));first|done|(with_reducible rfl)|simp (disch:=omega) only[w64]|(show False;done)))
  refine⟨fun h => ?_,fun h => ?_⟩ <;> (rw[Zs.l0_eq]) <;> (with_reducible repeat (first|refine Zi (by first|assumption|omega|rfl|exact B_pos (by omega)) ?_|refine Zh (by first|assumption|omega|decide|exact B_not (by omega)) ?_|refine Zf (by first|assumption) ?_|dsimp only))
  ·
   exact inner.1 fun j j0 j1=>h.2 j j0 (by omega)
  ·
   exact inner.2 fun k=>h ⟨by omega,fun j j0 j1=>k j j0 (by omega)⟩
 (rw[Zs.l0_eq])
 (with_reducible repeat (first|refine Zi (by first|assumption|omega|rfl|exact B_pos (by omega)) ?_|refine Zh (by first|assumption|omega|decide|exact B_not (by omega)) ?_|refine Zf (by first|assumption) ?_|dsimp only))
 refine scanT g.length (fun i=>Zs.l2 (g.length:Int) i g) (LawS g) (fun a a0 a1 _ => ?_) (fun _=>by(rw[Zs.l2_eq]);((with_reducible repeat (first|refine Zi (by first|assumption|omega|rfl|exact B_pos (by omega)) ?_|refine Zh (by first|assumption|omega|decide|exact B_not (by omega)) ?_|refine Zf (by first|assumption) ?_|dsimp only));first|done|(with_reducible rfl)|simp (disch:=omega) only[w64]|(show False;done)))
 have hlen:∀x:Int,0≤x→x < g.length→((row g x).length:Int)=g.length:=fun x x0 x1=>by rw[(ht x x0 x1).1]
 have hent:∀x y:Int,0≤x→x < g.length→0≤y→y < g.length→0≤T g x y∧T g x y < g.length:=fun x y x0 x1 y0 y1=>(ht x x0 x1).2 y y0 (by rw[hlen x x0 x1];exact y1)
 have l0:=hlen 0 (by omega) (by omega)
 have la:=hlen a a0 a1
 by_cases h2:T g 0 a=a
 rotate_left
 ·
  refine⟨fun h=>absurd h.1 h2,fun _ => ?_⟩
  (rw[Zs.l2_eq])
  ((with_reducible repeat (first|refine Zi (by first|assumption|omega|rfl|exact B_pos (by omega)) ?_|refine Zh (by first|assumption|omega|decide|exact B_not (by omega)) ?_|refine Zf (by first|assumption) ?_|dsimp only));first|done|(with_reducible rfl)|simp (disch:=omega) only[w64]|(show False;done))
 by_cases h3:T g a 0=a
 rotate_left
 ·
  refine⟨fun h=>absurd h.2.1 h3,fun _ => ?_⟩
  (rw[Zs.l2_eq])
  ((with_reducible repeat (first|refine Zi (by first|assumption|omega|rfl|exact B_pos (by omega)) ?_|refine Zh (by first|assumption|omega|decide|exact B_not (by omega)) ?_|refine Zf (by first|assumption) ?_|dsimp only));first|done|(with_reducible rfl)|simp (disch:=omega) only[w64]|(show False;done))
 let Fd:Int→Prop:=fun b=>∃j:Int,0≤j∧j < b∧T g a j=0∧T g j a=0
 have fd0:B (Fd 0)=false:=B_neg fun⟨j,j0,j1,_⟩=>by omega
 have inner:=scan g.length (fun b=>Zs.l3 (g.length:Int) a (B (Fd b)) b g) (fun b=>∀c:Int,0≤c→c < g.length→T g (T g a b) c=T g a (T g b c)) (some false) (fun b b0 b1 _=>by
  obtain⟨e0,e1⟩:=hent a b a0 a1 b0 b1
  have le:=hlen _ e0 e1
  have lb:=hlen b b0 b1
  have toj:Zs.l3 (g.length:Int) a (B (Fd b)) b g=Zs.l4 (g.length:Int) a (B (Fd (b+1))) b 0 g:=by
   by_cases k1:Fd b
   ·
    rw[B_pos k1,B_pos (show Fd (b+1)from by obtain⟨j,j0,j1,h⟩:=k1;exact⟨j,j0,by omega,h⟩)]
    (rw[Zs.l3_eq])
    ((with_reducible repeat (first|refine Zi (by first|assumption|omega|rfl|exact B_pos (by omega)) ?_|refine Zh (by first|assumption|omega|decide|exact B_not (by omega)) ?_|refine Zf (by first|assumption) ?_|dsimp only));first|done|(with_reducible rfl)|simp (disch:=omega) only[w64]|(show False;done))
   ·
    rw[B_neg k1]
    by_cases k2:T g a b=0
    ·
     have e:B (Fd (b+1))=decide (T g b a=0):=by
      by_cases k3:T g b a=0
      ·
       rw[B_pos ⟨b,b0,by omega,k2,k3⟩];simp[k3]
      ·
       rw[B_neg]
       ·
        simp[k3]
       ·
        rintro⟨j,j0,j1,ja,jb⟩
        by_cases ej:j=b
        ·
         subst ej;exact k3 jb
        ·
         exact k1 ⟨j,j0,by omega,ja,jb⟩
     rw[e]
     (rw[Zs.l3_eq])
     ((with_reducible repeat (first|refine Zi (by first|assumption|omega|rfl|exact B_pos (by omega)) ?_|refine Zh (by first|assumption|omega|decide|exact B_not (by omega)) ?_|refine Zf (by first|assumption) ?_|dsimp only));first|done|(with_reducible rfl)|simp (disch:=omega) only[w64]|(show False;done))
    ·
     rw[B_neg (show ¬ Fd (b+1)from by
      rintro⟨j,j0,j1,ja,jb⟩
      by_cases ej:j=b
      ·
       subst ej;exact k2 ja
      ·
       exact k1 ⟨j,j0,by omega,ja,jb⟩)]
     (rw[Zs.l3_eq])
     ((with_reducible repeat (first|refine Zi (by first|assumption|omega|rfl|exact B_pos (by omega)) ?_|refine Zh (by first|assumption|omega|decide|exact B_not (by omega)) ?_|refine Zf (by first|assumption) ?_|dsimp only));first|done|(with_reducible rfl)|simp (disch:=omega) only[w64]|(show False;done))
  have inner4:=scanI g.length (fun c=>Zs.l4 (g.length:Int) a (B (Fd (b+1))) b c g) (fun c=>T g (T g a b) c=T g a (T g b c)) (some false) (Zs.l3 (g.length:Int) a (B (Fd (b+1))) (b+1) g) (fun c c0 c1 _=>by
   obtain⟨f0,f1⟩:=hent b c b0 b1 c0 c1
   refine⟨fun h => ?_,fun h => ?_⟩ <;> (rw[Zs.l4_eq]) <;> ((with_reducible repeat (first|refine Zi (by first|assumption|omega|rfl|exact B_pos (by omega)) ?_|refine Zh (by first|assumption|omega|decide|exact B_not (by omega)) ?_|refine Zf (by first|assumption) ?_|dsimp only));first|done|(with_reducible rfl)|simp (disch:=omega) only[w64]|(show False;done))) (fun _=>by(rw[Zs.l4_eq]);((with_reducible repeat (first|refine Zi (by first|assumption|omega|rfl|exact B_pos (by omega)) ?_|refine Zh (by first|assumption|omega|decide|exact B_not (by omega)) ?_|refine Zf (by first|assumption) ?_|dsimp only));first|done|(with_reducible rfl)|simp (disch:=omega) only[w64]|(show False;done)))
  exact⟨fun h=>toj.trans (inner4.1 h),fun h=>toj.trans (inner4.2 h)⟩)
 have st:Zs.l2 (g.length:Int) a g=Zs.l3 (g.length:Int) a (B (Fd 0)) 0 g:=by
  rw[fd0]
  (rw[Zs.l2_eq])
  ((with_reducible repeat (first|refine Zi (by first|assumption|omega|rfl|exact B_pos (by omega)) ?_|refine Zh (by first|assumption|omega|decide|exact B_not (by omega)) ?_|refine Zf (by first|assumption) ?_|dsimp only));first|done|(with_reducible rfl)|simp (disch:=omega) only[w64]|(show False;done))
 rw[st]
 rcases inner with ⟨h5,h6⟩|⟨b,b0,b1,_,h5,_,h6⟩
 ·
  simp only[h6]
  by_cases h7:Fd g.length
  ·
   refine⟨fun _ => ?_,fun h=>absurd ⟨h2,h3,h5,h7⟩ h⟩
   rw[B_pos h7]
   (rw[Zs.l3_eq])
   ((with_reducible repeat (first|refine Zi (by first|assumption|omega|rfl|exact B_pos (by omega)) ?_|refine Zh (by first|assumption|omega|decide|exact B_not (by omega)) ?_|refine Zf (by first|assumption) ?_|dsimp only));first|done|(with_reducible rfl)|simp (disch:=omega) only[w64]|(show False;done))
  ·
   refine⟨fun h=>absurd h.2.2.2 h7,fun h => ?_⟩
   rw[B_neg h7]
   (rw[Zs.l3_eq])
   ((with_reducible repeat (first|refine Zi (by first|assumption|omega|rfl|exact B_pos (by omega)) ?_|refine Zh (by first|assumption|omega|decide|exact B_not (by omega)) ?_|refine Zf (by first|assumption) ?_|dsimp only));first|done|(with_reducible rfl)|simp (disch:=omega) only[w64]|(show False;done))
 ·
  exact⟨fun h=>absurd (h.2.2.1 b b0 b1) h5,fun _=>h6⟩
theorem gcd0 (y:Nat):∀x:Nat,ZaK.l0 (x:Int) (y:Int)=some ((Nat.gcd x y:Nat):Int):=by
 induction y using Nat.strongRecOn with
 | _ y ih =>
  intro x
  (rw[ZaK.l0_eq])
  by_cases h:y=0
  ·
   subst h
   simp
  ·
   have e:Int.tmod (x:Int) (y:Int)=((x%y:Nat):Int):=by rw[Int.ofNat_tmod]
   have:=ih (x%y) (Nat.mod_lt _ (by omega)) y
   rw[show Nat.gcd y (x%y)=Nat.gcd x y by rw[Nat.gcd_comm x y,Nat.gcd_rec y x,Nat.gcd_comm]]at this
   rw[e]
   (with_reducible repeat (first|refine Zi (by first|assumption|omega|rfl|exact B_pos (by omega)) ?_|refine Zh (by first|assumption|omega|decide|exact B_not (by omega)) ?_|refine Zf (by first|assumption) ?_|dsimp only))
   exact this
theorem gcd_ {a b:Int} (ha:0≤a) (hb:0≤b):ZaK.f a b=some ((Int.gcd a b:Nat):Int):=by
 obtain⟨x,rfl⟩:=Int.eq_ofNat_of_zero_le ha
 obtain⟨y,rfl⟩:=Int.eq_ofNat_of_zero_le hb
 have:=gcd0 y x
 rw[ZaK.f_eq]
 simpa [Int.gcd] using this
theorem Gcd0 (y:Nat):∀x:Nat,x≤9223372036854775807→y≤9223372036854775807→Zaa.l0 (x:Int) (y:Int)=some ((Nat.gcd x y:Nat):Int):=by
 induction y using Nat.strongRecOn with
 | _ y ih =>
  intro x hx hy
  (rw[Zaa.l0_eq])
  by_cases h:y=0
  ·
   subst h
   have hw:wrapI (0 - (x:Int)) = -(x:Int):=by rw[w64 (by omega) (by omega)];omega
   rw[hw,if_pos (by simp),if_neg (by omega)]
   simp
  ·
   have e:Int.tmod (x:Int) (y:Int)=((x%y:Nat):Int):=by rw[Int.ofNat_tmod]
   have hlt:=Nat.mod_lt x (show y > 0 by omega)
   have:=ih (x%y) hlt y hy (by omega)
   rw[show Nat.gcd y (x%y)=Nat.gcd x y by rw[Nat.gcd_comm x y,Nat.gcd_rec y x,Nat.gcd_comm]]at this
   rw[e]
   (with_reducible repeat (first|refine Zi (by first|assumption|omega|rfl|exact B_pos (by omega)) ?_|refine Zh (by first|assumption|omega|decide|exact B_not (by omega)) ?_|refine Zf (by first|assumption) ?_|dsimp only))
   exact this
theorem Gcd_ {a b:Int} (ha:0≤a) (hb:0≤b) (ha' : a≤9223372036854775807) (hb' : b≤9223372036854775807):Zaa.f a b=some ((Int.gcd a b:Nat):Int):=by
 obtain⟨x,rfl⟩:=Int.eq_ofNat_of_zero_le ha
 obtain⟨y,rfl⟩:=Int.eq_ofNat_of_zero_le hb
 have:=Gcd0 y x (by omega) (by omega)
 rw[Zaa.f_eq]
 simpa [Int.gcd] using this
theorem Grp.foldl_in {g:List (List Int)} (hg:Grp g):∀(xs:List Int) (x:Int),AllIn g.length xs→0≤x→x < g.length→0≤xs.foldl (T g) x∧xs.foldl (T g) x < g.length:=by
 intro xs
 induction xs with
 | nil=>exact fun x _ a b=>⟨a,b⟩
 | cons y ys ih =>
  intro x hx x0 x1
  obtain⟨y0,y1⟩:=hx.mem (List.mem_cons_self ..)
  obtain⟨z0,z1⟩:=hg.ent x y x0 x1 y0 y1
  exact ih _ (Zbq fun z hz=>hx.mem (List.mem_cons_of_mem _ hz)) z0 z1
theorem ZhJ {xs:List Int} {m:Nat} (h:m < xs.length):xs.take (m+1)=xs.take m++[rd xs m]:=by
 rw[List.take_succ_eq_append_getElem h,Za4 h]
theorem times {g:List (List Int)} (hg:Grp g) (xs:List Int) (hx:AllIn g.length xs) (hl:xs.length≤maxLen):Zz.f g xs=some (xs.foldl (T g) 0):=by
 have hm:=Zbv
 have n1:=hg.n1
 rw[Zz.f_eq]
 have:=up xs.length (fun i=>Zz.l0 ((xs.take i).foldl (T g) 0) xs (xs.length:Int) (i:Int) g) (fun i hi=>by
  obtain⟨z0,z1⟩:=hg.foldl_in (xs.take i) 0 (hx.take i) (by omega) (by omega)
  obtain⟨y0,y1⟩:=hx i (by omega) (by omega)
  have hr:((row g ((xs.take i).foldl (T g) 0)).length:Int)=g.length:=by rw[hg.row _ z0 z1]
  have hw:wrapI ((i:Int)+1)=((i+1:Nat):Int):=by rw[w64 (by omega) (by omega)];omega
  rw[ZhJ hi,List.foldl_append,List.foldl_cons,List.foldl_nil]
  (rw[Zz.l0_eq,hw])
  ((with_reducible repeat (first|refine Zi (by first|assumption|omega|rfl|exact B_pos (by omega)) ?_|refine Zh (by first|assumption|omega|decide|exact B_not (by omega)) ?_|refine Zf (by first|assumption) ?_|dsimp only));first|done|(with_reducible rfl)|simp (disch:=omega) only[w64]|(show False;done)))
 simp only[List.take_zero,List.foldl_nil,List.take_length,Int.natCast_zero]at this
 rw[this]
 (rw[Zz.l0_eq])
 ((with_reducible repeat (first|refine Zi (by first|assumption|omega|rfl|exact B_pos (by omega)) ?_|refine Zh (by first|assumption|omega|decide|exact B_not (by omega)) ?_|refine Zf (by first|assumption) ?_|dsimp only));first|done|(with_reducible rfl)|simp (disch:=omega) only[w64]|(show False;done))
theorem times2 {g:List (List Int)} (hg:Grp g) {x y:Int} (x0:0≤x) (x1:x < g.length) (y0:0≤y) (y1:y < g.length):Zz.f g [x,y]=some (T g x y):=by
 have:=times hg [x,y] (Zf9 x0 x1 y0 y1) (by unfold maxLen;simp)
 simpa [hg.one x x0 x1] using this
end Go.Proofs.Ytdamfbighdkcbaa.V
namespace Go.Proofs.Ytdamfbighdkcbaa.V
open Go.RowKit Go.Proofs.Ytdamfbighdkcbaa.D Go.Proofs.Ytdamfbighdkcbaa.P
structure Mdl (g:List (List Int)) (m:Int) (u:List Int):Prop where
 m2:2≤m
 m12:m≤12
 len:u.length=g.length
 unit:∀i:Int,0≤i→i < u.length→1≤rd u i∧rd u i < m∧Int.gcd (rd u i) m=1
 hom:∀i:Int,0≤i→i < u.length→∀j:Int,0≤j→j < u.length→rd u (T g i j)=rd u i*rd u j%m
theorem Zlc:∀m:Nat,m≤12→∀u:Nat,u < m→Nat.gcd u m=1→u=u*u%m→1≤u→u=1:=by decide
theorem Mdl.one {g:List (List Int)} {m:Int} {u:List Int} (hg:Grp g) (h:Mdl g m u):rd u 0=1:=by
 have n1:=hg.n1
 have hl:=h.len
 obtain⟨a1,a2,a3⟩:=h.unit 0 (by omega) (by omega)
 have e:=h.hom 0 (by omega) (by omega) 0 (by omega) (by omega)
 rw[hg.one 0 (by omega) (by omega)]at e
 have m2:=h.m2;have m12:=h.m12
 obtain⟨M,rfl⟩:=Int.eq_ofNat_of_zero_le (show 0≤m by omega)
 obtain⟨U,hU⟩:=Int.eq_ofNat_of_zero_le (show 0≤rd u 0 by omega)
 rw[hU]at a1 a2 a3 e ⊢
 have:=Zlc M (by omega) U (by omega) (by simpa [Int.gcd] using a3) (by exact_mod_cast e) (by omega)
 omega
theorem ZcS {a b m:Int} (a0:0≤a) (a1:a < m) (b0:0≤b) (b1:b < m) (hm:m≤1000):0≤a*b∧a*b≤1000000:=by
 refine⟨Int.mul_nonneg a0 b0,?_⟩
 have h1:a*b≤1000*b:=Int.mul_le_mul_of_nonneg_right (by omega) b0
 omega
theorem Mdl.at {g:List (List Int)} {m:Int} {u:List Int} (h:Mdl g m u) {x:Int} (x0:0≤x) (x1:x < g.length):1≤rd u x∧rd u x < m:=by
 have hl:=h.len
 obtain⟨a,b,_⟩:=h.unit x x0 (by omega)
 exact⟨a,b⟩
theorem Zfp {m x:Int} {u:List Int} {g:List (List Int)} (hm:Mdl g m u) (x0:0≤x) (x1:x < g.length) {b:Int} (b0:0≤b) (b1:b < m):0≤rd u x*b∧rd u x*b≤1000000:=by
 have m12:=hm.m12
 have:=hm.at x0 x1
 exact ZcS (by omega) this.2 b0 b1 (by omega)
theorem Zmo {m x:Int} (m0:0≤m):ZaJ.f m x=some (B (1≤x∧x < m∧Int.gcd x m=1)):=by
 rw[ZaJ.f_eq]
 by_cases h1:1≤x∧x < m
 ·
  have h:=gcd_ m0 (show 0≤x by omega)
  (with_reducible repeat (first|refine Zi (by first|assumption|omega|rfl|exact B_pos (by omega)) ?_|refine Zh (by first|assumption|omega|decide|exact B_not (by omega)) ?_|refine Zf (by first|assumption) ?_|dsimp only))
  rw[Int.gcd_comm]
  by_cases h3:Int.gcd x m=1
  ·
   rw[B_pos ⟨h1.1,h1.2,h3⟩];simp[h3]
  ·
   rw[B_neg fun h=>h3 h.2.2]
   simp;omega
 ·
  rw[B_neg fun h=>h1 ⟨h.1,h.2.1⟩]
  by_cases h2:1≤x <;> ((with_reducible repeat (first|refine Zi (by first|assumption|omega|rfl|exact B_pos (by omega)) ?_|refine Zh (by first|assumption|omega|decide|exact B_not (by omega)) ?_|refine Zf (by first|assumption) ?_|dsimp only));first|done|(with_reducible rfl)|simp (disch:=omega) only[w64]|(show False;done))
theorem Zdz (m:Int):Zal.f m=some (B (2≤m∧m≤12)):=by
 rw[Zal.f_eq]
 by_cases h:m≥2
 ·
  rw[if_pos h,Zft,Zbt (show m≤12↔(2≤m∧m≤12)from⟨fun h' => ⟨h,h'⟩,fun h' => h'.2⟩)]
 ·
  rw[if_neg h,B_neg (fun h' => h h'.1)]
theorem ZjN (g:List (List Int)) (m:Int) (u:List Int):Mdl g m u↔(2≤m∧m≤12)∧u.length=g.length∧(∀i:Int,0≤i→i < u.length→1≤rd u i∧rd u i < m∧Int.gcd (rd u i) m=1)∧∀i:Int,0≤i→i < u.length→∀j:Int,0≤j→j < u.length→rd u (T g i j)=rd u i*rd u j%m :=
 ⟨fun h=>⟨⟨h.m2,h.m12⟩,h.len,h.unit,h.hom⟩,fun⟨⟨a,b⟩,c,d,e⟩=>⟨a,b,c,d,e⟩⟩
theorem ZkQ {g:List (List Int)} (hg:Grp g) (m:Int) (u:List Int) (hl:u.length≤maxLen):Zx.f g m u=some (B (Mdl g m u)):=by
 have hm:=Zbv
 have n1:=hg.n1
 (rw[Zx.f_eq])
 by_cases h1:2≤m∧m≤12
 rotate_left
 ·
  rw[B_neg fun h=>h1 ⟨h.m2,h.m12⟩]
  ((with_reducible repeat (first|refine Zi (by first|assumption|omega|rfl|exact B_pos (by omega)) ?_|refine Zh (by first|assumption|omega|decide|exact B_not (by omega)) ?_|refine Zf (by first|assumption|exact Zdz _|exact Z8.f_eq _) ?_|dsimp only));first|done|(with_reducible rfl)|simp (disch:=omega) only[w64]|(show False;done))
 by_cases h3:(u.length:Int)=g.length
 rotate_left
 ·
  rw[B_neg fun h=>h3 (by rw[h.len])]
  ((with_reducible repeat (first|refine Zi (by first|assumption|omega|rfl|exact B_pos (by omega)) ?_|refine Zh (by first|assumption|omega|decide|exact B_not (by omega)) ?_|refine Zf (by first|assumption|exact Zdz _|exact Z8.f_eq _) ?_|dsimp only));first|done|(with_reducible rfl)|simp (disch:=omega) only[w64]|(show False;done))
 by_cases h5:rd u 0=1
 rotate_left
 ·
  rw[B_neg fun h=>h5 (h.one hg)]
  ((with_reducible repeat (first|refine Zi (by first|assumption|omega|rfl|exact B_pos (by omega)) ?_|refine Zh (by first|assumption|omega|decide|exact B_not (by omega)) ?_|refine Zf (by first|assumption|exact Zdz _|exact Z8.f_eq _) ?_|dsimp only));first|done|(with_reducible rfl)|simp (disch:=omega) only[w64]|(show False;done))
 (with_reducible repeat (first|refine Zi (by first|assumption|omega|rfl|exact B_pos (by omega)) ?_|refine Zh (by first|assumption|omega|decide|exact B_not (by omega)) ?_|refine Zf (by first|assumption|exact Zdz _|exact Z8.f_eq _) ?_|dsimp only))
 rw[Zbt (ZjN g m u),Zbt (show((2≤m∧m≤12)∧u.length=g.length∧(∀i:Int,0≤i→i < u.length→1≤rd u i∧rd u i < m∧Int.gcd (rd u i) m=1)∧∀i:Int,0≤i→i < u.length→∀j:Int,0≤j→j < u.length→rd u (T g i j)=rd u i*rd u j%m)↔_ from⟨fun h=>h.2.2,fun h=>⟨h1,by omega,h⟩⟩)]
 refine scanB u.length (fun i=>Zx.l0 u (u.length:Int) i g m u) (fun i=>1≤rd u i∧rd u i < m∧Int.gcd (rd u i) m=1) _ (fun i i0 i1 _ => ?_) (fun hu => ?_)
 ·
  have hu:=Zmo (m:=m) (x:=rd u i) (by omega)
  refine⟨fun h => ?_,fun h => ?_⟩ <;> (rw[Zx.l0_eq]) <;> ((with_reducible repeat (first|refine Zi (by first|assumption|omega|rfl|exact B_pos (by omega)) ?_|refine Zh (by first|assumption|omega|decide|exact B_not (by omega)) ?_|refine Zf (by first|assumption) ?_|dsimp only));first|done|(with_reducible rfl)|simp (disch:=omega) only[w64]|(show False;done))
 (rw[Zx.l0_eq])
 (with_reducible repeat (first|refine Zi (by first|assumption|omega|rfl|exact B_pos (by omega)) ?_|refine Zh (by first|assumption|omega|decide|exact B_not (by omega)) ?_|refine Zf (by first|assumption|exact Z8.f_eq _) ?_|dsimp only))
 rw[←h3]
 refine scanT u.length (fun i=>Zx.l1 (u.length:Int) i g m u) (fun i=>∀j:Int,0≤j→j < u.length→rd u (T g i j)=rd u i*rd u j%m) (fun i i0 i1 _ => ?_) (fun _=>by(rw[Zx.l1_eq]);((with_reducible repeat (first|refine Zi (by first|assumption|omega|rfl|exact B_pos (by omega)) ?_|refine Zh (by first|assumption|omega|decide|exact B_not (by omega)) ?_|refine Zf (by first|assumption) ?_|dsimp only));first|done|(with_reducible rfl)|simp (disch:=omega) only[w64]|(show False;done)))
 have inner:=scanI u.length (fun j=>Zx.l2 i (u.length:Int) i (u.length:Int) j g m u) (fun j=>rd u (T g i j)=rd u i*rd u j%m) (some false) (Zx.l1 (u.length:Int) (i+1) g m u) (fun j j0 j1 _=>by
  have ht:=times2 hg i0 (by omega) j0 (by omega)
  obtain⟨e0,e1⟩:=hg.ent i j i0 (by omega) j0 (by omega)
  obtain⟨p0,p1⟩:=ZcS (show 0≤rd u i by have:=(hu i i0 i1).1;omega) (hu i i0 i1).2.1 (show 0≤rd u j by have:=(hu j j0 j1).1;omega) (hu j j0 j1).2.1 (by omega)
  have hwp:wrapI (rd u i*rd u j)=rd u i*rd u j:=w64 (by omega) (by omega)
  have e:=ZeZ (m:=m) p0
  refine⟨fun h => ?_,fun h => ?_⟩ <;> (rw[Zx.l2_eq,hwp,e]) <;> ((with_reducible repeat (first|refine Zi (by first|assumption|omega|rfl|exact B_pos (by omega)) ?_|refine Zh (by first|assumption|omega|decide|exact B_not (by omega)) ?_|refine Zf (by first|assumption) ?_|dsimp only));first|done|(with_reducible rfl)|simp (disch:=omega) only[w64]|(show False;done))) (fun _=>by(rw[Zx.l2_eq]);((with_reducible repeat (first|refine Zi (by first|assumption|omega|rfl|exact B_pos (by omega)) ?_|refine Zh (by first|assumption|omega|decide|exact B_not (by omega)) ?_|refine Zf (by first|assumption) ?_|dsimp only));first|done|(with_reducible rfl)|simp (disch:=omega) only[w64]|(show False;done)))
 refine⟨fun h => ?_,fun h => ?_⟩ <;> (rw[Zx.l1_eq]) <;> (with_reducible repeat (first|refine Zi (by first|assumption|omega|rfl|exact B_pos (by omega)) ?_|refine Zh (by first|assumption|omega|decide|exact B_not (by omega)) ?_|refine Zf (by first|assumption|exact Z8.f_eq _) ?_|dsimp only)) <;> rw[←h3]
 ·
  exact inner.1 h
 ·
  exact inner.2 h
theorem Is02 {g:List (List Int)} (hg:Grp g) (m:Int) (u:List Int) (hl:u.length≤maxLen):ZO.f g m u=some (B (Mdl g m u)):=by
 have hm:=Zbv
 have n1:=hg.n1
 (rw[ZO.f_eq])
 by_cases h1:2≤m∧m≤12
 rotate_left
 ·
  rw[B_neg fun h=>h1 ⟨h.m2,h.m12⟩]
  ((with_reducible repeat (first|refine Zi (by first|assumption|omega|rfl|exact B_pos (by omega)) ?_|refine Zh (by first|assumption|omega|decide|exact B_not (by omega)) ?_|refine Zf (by first|assumption|exact In_ _ _ _) ?_|dsimp only));first|done|(with_reducible rfl)|simp (disch:=omega) only[w64]|(show False;done))
 by_cases h3:(u.length:Int)=g.length
 rotate_left
 ·
  rw[B_neg fun h=>h3 (by rw[h.len])]
  ((with_reducible repeat (first|refine Zi (by first|assumption|omega|rfl|exact B_pos (by omega)) ?_|refine Zh (by first|assumption|omega|decide|exact B_not (by omega)) ?_|refine Zf (by first|assumption|exact In_ _ _ _) ?_|dsimp only));first|done|(with_reducible rfl)|simp (disch:=omega) only[w64]|(show False;done))
 (with_reducible repeat (first|refine Zi (by first|assumption|omega|rfl|exact B_pos (by omega)) ?_|refine Zh (by first|assumption|omega|decide|exact B_not (by omega)) ?_|refine Zf (by first|assumption|exact In_ _ _ _) ?_|dsimp only))
 rw[Zbt (ZjN g m u),Zbt (show((2≤m∧m≤12)∧u.length=g.length∧(∀i:Int,0≤i→i < u.length→1≤rd u i∧rd u i < m∧Int.gcd (rd u i) m=1)∧∀i:Int,0≤i→i < u.length→∀j:Int,0≤j→j < u.length→rd u (T g i j)=rd u i*rd u j%m)↔_ from⟨fun h=>h.2.2,fun h=>⟨h1,by omega,h⟩⟩)]
 have hw1:wrapI (m - 1)=m - 1:=w64 (by omega) (by omega)
 refine scanB u.length (fun i=>ZO.l0 i g m u) (fun i=>1≤rd u i∧rd u i < m∧Int.gcd (rd u i) m=1) _ (fun i i0 i1 _ => ?_) (fun hu => ?_)
 ·
  refine⟨fun h => ?_,fun h => ?_⟩ <;> (rw[ZO.l0_eq,hw1])
  ·
   have hgc:=Gcd_ (a:=rd u i) (b:=m) (by omega) (by omega) (by omega) (by omega)
   ((with_reducible repeat (first|refine Zi (by first|assumption|omega|rfl|exact B_pos (by omega)) ?_|refine Zh (by first|assumption|omega|decide|exact B_not (by omega)) ?_|refine Zf (by first|assumption|exact In_ _ _ _) ?_|dsimp only));first|done|(with_reducible rfl)|simp (disch:=omega) only[w64]|(show False;done))
  ·
   by_cases h6:1≤rd u i∧rd u i < m
   ·
    have hgc:=Gcd_ (a:=rd u i) (b:=m) (by omega) (by omega) (by omega) (by omega)
    ((with_reducible repeat (first|refine Zi (by first|assumption|omega|rfl|exact B_pos (by omega)) ?_|refine Zh (by first|assumption|omega|decide|exact B_not (by omega)) ?_|refine Zf (by first|assumption|exact In_ _ _ _) ?_|dsimp only));first|done|(with_reducible rfl)|simp (disch:=omega) only[w64]|(show False;done))
   ·
    ((with_reducible repeat (first|refine Zi (by first|assumption|omega|rfl|exact B_pos (by omega)) ?_|refine Zh (by first|assumption|omega|decide|exact B_not (by omega)) ?_|refine Zf (by first|assumption|exact In_ _ _ _) ?_|dsimp only));first|done|(with_reducible rfl)|simp (disch:=omega) only[w64]|(show False;done))
 (rw[ZO.l0_eq])
 (with_reducible repeat (first|refine Zi (by first|assumption|omega|rfl|exact B_pos (by omega)) ?_|refine Zh (by first|assumption|omega|decide|exact B_not (by omega)) ?_|refine Zf (by first|assumption) ?_|dsimp only))
 refine scanT u.length (fun i=>ZO.l1 i g m u) (fun i=>∀j:Int,0≤j→j < u.length→rd u (T g i j)=rd u i*rd u j%m) (fun i i0 i1 _ => ?_) (fun _=>by(rw[ZO.l1_eq]);((with_reducible repeat (first|refine Zi (by first|assumption|omega|rfl|exact B_pos (by omega)) ?_|refine Zh (by first|assumption|omega|decide|exact B_not (by omega)) ?_|refine Zf (by first|assumption) ?_|dsimp only));first|done|(with_reducible rfl)|simp (disch:=omega) only[w64]|(show False;done)))
 have ri:=hg.row i i0 (by omega)
 have inner:=scanI u.length (fun j=>ZO.l2 i j g m u) (fun j=>rd u (T g i j)=rd u i*rd u j%m) (some false) (ZO.l1 (i+1) g m u) (fun j j0 j1 _=>by
  obtain⟨e0,e1⟩:=hg.ent i j i0 (by omega) j0 (by omega)
  obtain⟨p0,p1⟩:=ZcS (show 0≤rd u i by have:=(hu i i0 i1).1;omega) (hu i i0 i1).2.1 (show 0≤rd u j by have:=(hu j j0 j1).1;omega) (hu j j0 j1).2.1 (by omega)
  have hwp:wrapI (rd u i*rd u j)=rd u i*rd u j:=w64 (by omega) (by omega)
  have e:=ZeZ (m:=m) p0
  refine⟨fun h => ?_,fun h => ?_⟩ <;> (rw[ZO.l2_eq,hwp,e]) <;> ((with_reducible repeat (first|refine Zi (by first|assumption|omega|rfl|exact B_pos (by omega)) ?_|refine Zh (by first|assumption|omega|decide|exact B_not (by omega)) ?_|refine Zf (by first|assumption) ?_|dsimp only));first|done|(with_reducible rfl)|simp (disch:=omega) only[w64]|(show False;done))) (fun _=>by(rw[ZO.l2_eq]);((with_reducible repeat (first|refine Zi (by first|assumption|omega|rfl|exact B_pos (by omega)) ?_|refine Zh (by first|assumption|omega|decide|exact B_not (by omega)) ?_|refine Zf (by first|assumption) ?_|dsimp only));first|done|(with_reducible rfl)|simp (disch:=omega) only[w64]|(show False;done)))
 refine⟨fun h => ?_,fun h => ?_⟩ <;> (rw[ZO.l1_eq]) <;> (with_reducible repeat (first|refine Zi (by first|assumption|omega|rfl|exact B_pos (by omega)) ?_|refine Zh (by first|assumption|omega|decide|exact B_not (by omega)) ?_|refine Zf (by first|assumption) ?_|dsimp only))
 ·
  exact inner.1 h
 ·
  exact inner.2 h
def GM (g:List (List Int)) (m:Int) (u:List Int):Prop:=Grp g∧Mdl g m u
theorem Zg3 (g:List (List Int)) (hl:g.length≤maxLen) (hr:∀r∈g,r.length≤maxLen) (m:Int) (u:List Int) (hu:u.length≤maxLen):ZL.f g [(m,u)]=some (B (GM g m u)):=by
 have hG:=ZlS g hl hr
 rw[ZL.f_eq]
 have st:ZL.l0 [(m,u)] (([(m,u)]:List (Int×List Int)).length:Int) 1 g=some true:=by(rw[ZL.l0_eq]);exact if_neg (by simp)
 (rw[ZL.l0_eq])
 rw[if_pos (by simp),if_pos (by simp),if_pos (by simp),hG]
 by_cases h1:Grp g
 ·
  have hM:=ZkQ h1 m u hu
  rw[B_pos h1]
  show(Option.bind (Zx.f g m u) _)=_
  rw[hM]
  by_cases h2:Mdl g m u
  ·
   rw[B_pos h2,B_pos ⟨h1,h2⟩]
   simpa [show wrapI 1=1 from w64 (by omega) (by omega)] using st
  ·
   rw[B_neg h2,B_neg fun h=>h2 h.2]
   rfl
 ·
  rw[B_neg h1,B_neg fun h=>h1 h.1]
  rfl
end Go.Proofs.Ytdamfbighdkcbaa.V
namespace Go.Proofs.Ytdamfbighdkcbaa.V
open Go.RowKit Go.Proofs.Ytdamfbighdkcbaa.D Go.Proofs.Ytdamfbighdkcbaa.P
theorem Mod_ {a m:Int} (h0 : -1000000000≤a) (h1:a≤1000000000) (m0:0 < m) (m1:m≤1000000):Zam.f a m=some (a%m):=by
 rw[Zam.f_eq]
 have t0:=Int.tmod_lt_of_pos a m0
 have t1 : -m < Int.tmod a m:=Int.lt_tmod_of_pos a m0
 have hq:=Int.mul_tdiv_add_tmod a m
 have h5:(m*a.tdiv m+a.tmod m)%m=a.tmod m%m:=by rw[Int.add_comm,Int.add_mul_emod_self_left]
 rw[hq]at h5
 rw[w64 (by omega) (by omega),Int.tmod_eq_emod_of_nonneg (show 0≤Int.tmod a m+m by omega),Int.add_emod_right,←h5]
 ((with_reducible repeat (first|refine Zi (by first|assumption|omega|rfl|exact B_pos (by omega)) ?_|refine Zh (by first|assumption|omega|decide|exact B_not (by omega)) ?_|refine Zf (by first|assumption) ?_|dsimp only));first|done|(with_reducible rfl)|simp (disch:=omega) only[w64]|(show False;done))
theorem Zl0:∀n:Nat,n≤7→∀i:Nat,i≤5→n ^ i≤16807:=by decide
theorem Zio {a:Int} (h0:0≤a) (h1:a≤7) (i:Nat) (hi:i≤5):0≤a ^ i∧a ^ i≤16807:=by
 obtain⟨n,rfl⟩:=Int.eq_ofNat_of_zero_le h0
 have h:=Zl0 n (by omega) i hi
 rw[←Int.natCast_pow]
 omega
def cells (g:List (List Int)) (d:Int):Int:=((g.length:Int) - 1) ^ d.toNat
theorem Zdt {g:List (List Int)} (hg:Grp g) {d:Int} (h1:d≤5):0≤cells g d∧cells g d≤16807:=by
 have n8:=hg.n8;have n0:=hg.n1
 exact Zio (by omega) (by omega) _ (by omega)
theorem power {a d:Int} (h0:0≤a) (h1:a≤7) (d0:0≤d) (d1:d≤4):Zav.f a d=some (a ^ d.toNat):=by
 obtain⟨n,rfl⟩:=Int.eq_ofNat_of_zero_le d0
 have:=up n (fun j=>Zav.l0 a (a ^ j) (n:Int) (j:Int)) (fun j hj=>by
  have hw:wrapI ((j:Int)+1)=((j+1:Nat):Int):=by rw[w64 (by omega) (by omega)];omega
  have b:=Zio h0 h1 (j+1) (by omega)
  have hp:wrapI (a ^ j*a)=a ^ (j+1):=by rw[show a ^ j*a=a ^ (j+1)from(Int.pow_succ a j).symm];exact w64 (by omega) (by omega)
  rw[Zav.l0_eq,hw,hp]
  ((with_reducible repeat (first|refine Zi (by first|assumption|omega|rfl|exact B_pos (by omega)) ?_|refine Zh (by first|assumption|omega|decide|exact B_not (by omega)) ?_|refine Zf (by first|assumption) ?_|dsimp only));first|done|(with_reducible rfl)|simp (disch:=omega) only[w64]|(show False;done)))
 simp only[Int.pow_zero,Int.natCast_zero]at this
 rw[Zav.f_eq,this,Zav.l0_eq,Int.toNat_natCast]
 ((with_reducible repeat (first|refine Zi (by first|assumption|omega|rfl|exact B_pos (by omega)) ?_|refine Zh (by first|assumption|omega|decide|exact B_not (by omega)) ?_|refine Zf (by first|assumption) ?_|dsimp only));first|done|(with_reducible rfl)|simp (disch:=omega) only[w64]|(show False;done))
theorem Ze2 {g:List (List Int)} (hg:Grp g) {d:Int} (d0:0≤d) (d1:d≤4):Zau.f g d=some (cells g d):=by
 have n8:=hg.n8;have n0:=hg.n1
 have hw:wrapI ((g.length:Int) - 1)=g.length - 1:=w64 (by omega) (by omega)
 have hp:=power (a:=(g.length:Int) - 1) (by omega) (by omega) d0 d1
 show _=some (((g.length:Int) - 1) ^ d.toNat)
 rw[Zau.f_eq,Z8.f_eq,Option.bind_some,hw]
 ((with_reducible repeat (first|refine Zi (by first|assumption|omega|rfl|exact B_pos (by omega)) ?_|refine Zh (by first|assumption|omega|decide|exact B_not (by omega)) ?_|refine Zf (by first|assumption) ?_|dsimp only));first|done|(with_reducible rfl)|simp (disch:=omega) only[w64]|(show False;done))
theorem Zes {g:List (List Int)} (hg:Grp g) {d:Int} (d0:0≤d) (d1:d≤4):Zy.f g d=some (cells g d):=by
 have n8:=hg.n8;have n0:=hg.n1
 unfold cells
 have hw:wrapI ((g.length:Int) - 1)=g.length - 1:=w64 (by omega) (by omega)
 obtain⟨n,rfl⟩:=Int.eq_ofNat_of_zero_le d0
 suffices H:∀n j:Nat,n+j≤4→Zy.l0 (n:Int) (((g.length:Int) - 1) ^ j) g=some (((g.length:Int) - 1) ^ (j+n))by
  have:=H n 0 (by omega)
  rw[Zy.f_eq]
  simpa using this
 intro n
 induction n with
 | zero=>intro j hj;rw[Zy.l0_eq,Nat.add_zero];((with_reducible repeat (first|refine Zi (by first|assumption|omega|rfl|exact B_pos (by omega)) ?_|refine Zh (by first|assumption|omega|decide|exact B_not (by omega)) ?_|refine Zf (by first|assumption) ?_|dsimp only));first|done|(with_reducible rfl)|simp (disch:=omega) only[w64]|(show False;done))
 | succ n ih =>
  intro j hj
  have b:=Zio (a:=(g.length:Int) - 1) (by omega) (by omega) (j+1) (by omega)
  have hp:wrapI (((g.length:Int) - 1) ^ j*((g.length:Int) - 1))=((g.length:Int) - 1) ^ (j+1):=by rw[show((g.length:Int) - 1) ^ j*((g.length:Int) - 1)=((g.length:Int) - 1) ^ (j+1)from(Int.pow_succ _ j).symm];exact w64 (by omega) (by omega)
  have h1:wrapI (((n+1:Nat):Int) - 1)=(n:Int):=by rw[w64 (by omega) (by omega)];omega
  have:=ih (j+1) (by omega)
  rw[show j+1+n=j+(n+1)by omega]at this
  rw[Zy.l0_eq,ZaL.f_eq,Option.bind_some,hw,hp,h1]
  (with_reducible repeat (first|refine Zi (by first|assumption|omega|rfl|exact B_pos (by omega)) ?_|refine Zh (by first|assumption|omega|decide|exact B_not (by omega)) ?_|refine Zf (by first|assumption) ?_|dsimp only))
  exact this
def Co (g:List (List Int)) (m d:Int) (v:List Int):Prop:=(0≤d∧d≤3)∧(v.length:Int)=cells g d∧AllIn m v
theorem ZkP (d:Int):Zaw.f d=some (B (0≤d∧d≤3)):=by
 rw[Zaw.f_eq]
 by_cases h:d≥0
 ·
  rw[if_pos h,Zft,Zbt (show d≤3↔(0≤d∧d≤3)from⟨fun h' => ⟨h,h'⟩,fun h' => h'.2⟩)]
 ·
  rw[if_neg h,B_neg (fun h' => h h'.1)]
def idx (g:List (List Int)) (xs:List Int):Int:=xs.foldl (fun a x=>a*((g.length:Int) - 1)+x - 1) 0
theorem Zic (g:List (List Int)) (xs:List Int) (x:Int):idx g (xs++[x])=idx g xs*((g.length:Int) - 1)+x - 1:=by simp[idx]
theorem Zie {g:List (List Int)} {xs:List Int} {i:Nat} (h:i < xs.length):idx g (xs.take (i+1))=idx g (xs.take i)*((g.length:Int) - 1)+rd xs (i:Int) - 1:=by
 rw[ZhJ h,Zic]
theorem ZjL {g:List (List Int)} (hg:Grp g) {xs:List Int} (hx:AllIn g.length xs):∀i:Nat,i≤xs.length→(∀j:Int,0≤j→j < i→¬ rd xs j=0)→0≤idx g (xs.take i)∧idx g (xs.take i)+1≤((g.length:Int) - 1) ^ i:=by
 have n8:=hg.n8;have n1:=hg.n1
 intro i
 induction i with
 | zero=>intro _ _;simp[idx]
 | succ i ih =>
  intro hi hz
  obtain⟨a0,a1⟩:=ih (by omega) (fun j h0 h1=>hz j h0 (by omega))
  obtain⟨x0,x1⟩:=hx i (by omega) (by omega)
  have x2:=hz i (by omega) (by omega)
  rw[Zie (by omega),Int.pow_succ]
  have b1:0≤idx g (xs.take i)*((g.length:Int) - 1):=Int.mul_nonneg a0 (by omega)
  have b2:(idx g (xs.take i)+1)*((g.length:Int) - 1)≤((g.length:Int) - 1) ^ i*((g.length:Int) - 1):=Int.mul_le_mul_of_nonneg_right a1 (by omega)
  rw[Int.add_mul,Int.one_mul]at b2
  omega
def Zbk (xs:List Int):Prop:=∀j:Int,0≤j→j < xs.length→¬ rd xs j=0
noncomputable def At (g:List (List Int)) (v xs:List Int):Int:=ite_ (Zbk xs) (rd v (idx g xs)) 0
theorem Zid {g:List (List Int)} (hg:Grp g) {xs:List Int} (hx:AllIn g.length xs) (hl:xs.length≤4) {n:Nat} (hn:n < xs.length) (hz:∀j:Int,0≤j→j < (n:Int)→¬ rd xs j=0) :
  wrapI (wrapI (wrapI (idx g (xs.take n)*wrapI ((g.length:Int) - 1))+rd xs n) - 1)=idx g (xs.take (n+1))∧wrapI ((n:Int)+1)=(n:Int)+1:=by
 have n8:=hg.n8;have n1:=hg.n1
 obtain⟨a0,a1⟩:=ZjL hg hx n (by omega) hz
 obtain⟨x0,x1⟩:=hx n (by omega) (by omega)
 have p:=Zio (a:=(g.length:Int) - 1) (by omega) (by omega) n (by omega)
 have b1:0≤idx g (xs.take n)*((g.length:Int) - 1):=Int.mul_nonneg a0 (by omega)
 have b2:idx g (xs.take n)*((g.length:Int) - 1)≤16807*7:=Int.mul_le_mul (by omega) (by omega) (by omega) (by omega)
 rw[w64 (x:=(g.length:Int) - 1) (by omega) (by omega),w64 (x:=idx g (xs.take n)*((g.length:Int) - 1)) (by omega) (by omega),w64 (x:=idx g (xs.take n)*((g.length:Int) - 1)+rd xs n) (by omega) (by omega),w64 (by omega) (by omega),w64 (by omega) (by omega),Zie hn]
 exact⟨rfl,rfl⟩
theorem cell_ {g:List (List Int)} (hg:Grp g) {xs:List Int} (hx:AllIn g.length xs) (hl:xs.length≤4) :
  ZaB.f g xs=some (ite_ (Zbk xs) (idx g xs) (-1)):=by
 rw[ZaB.f_eq]
 have:=scan xs.length (fun i=>ZaB.l0 (idx g (xs.take i.toNat)) xs (xs.length:Int) i g) (fun j=>¬ rd xs j=0) (some (-1)) (fun i i0 i1 hz=>by
  obtain⟨n,rfl⟩:=Int.eq_ofNat_of_zero_le i0
  obtain⟨e1,e2⟩:=Zid hg hx hl (n:=n) (by omega) hz
  refine⟨fun h => ?_,fun h => ?_⟩
  ·
   rw[ZaB.l0_eq,Z8.f_eq,Option.bind_some,Int.toNat_natCast,e1,e2,show((n:Int)+1).toNat=n+1 by omega]
   ((with_reducible repeat (first|refine Zi (by first|assumption|omega|rfl|exact B_pos (by omega)) ?_|refine Zh (by first|assumption|omega|decide|exact B_not (by omega)) ?_|refine Zf (by first|assumption) ?_|dsimp only));first|done|(with_reducible rfl)|simp (disch:=omega) only[w64]|(show False;done))
  ·
   (rw[ZaB.l0_eq])
   ((with_reducible repeat (first|refine Zi (by first|assumption|omega|rfl|exact B_pos (by omega)) ?_|refine Zh (by first|assumption|omega|decide|exact B_not (by omega)) ?_|refine Zf (by first|assumption) ?_|dsimp only));first|done|(with_reducible rfl)|simp (disch:=omega) only[w64]|(show False;done)))
 simp only[Int.toNat_zero,List.take_zero,Int.toNat_natCast,List.take_length]at this
 rcases this with ⟨h1,h2⟩|⟨j,j0,j1,_,h1,_,h2⟩
 ·
  have h1:Zbk xs:=h1
  rw[ZbN h1,←show ZaB.l0 (idx g []) xs (xs.length:Int) 0 g=ZaB.l0 0 xs (xs.length:Int) 0 g from rfl,h2]
  (rw[ZaB.l0_eq])
  ((with_reducible repeat (first|refine Zi (by first|assumption|omega|rfl|exact B_pos (by omega)) ?_|refine Zh (by first|assumption|omega|decide|exact B_not (by omega)) ?_|refine Zf (by first|assumption) ?_|dsimp only));first|done|(with_reducible rfl)|simp (disch:=omega) only[w64]|(show False;done))
 ·
  rw[ZbM fun q=>h1 (q j j0 j1)]
  exact h2
theorem Zdx {g:List (List Int)} (hg:Grp g) {m d:Int} {v:List Int} (hc:Co g m d v) {xs:List Int} (hx:AllIn g.length xs) (hl:(xs.length:Int)=d) (h:Zbk xs):0≤idx g xs∧idx g xs < v.length:=by
 obtain⟨⟨d0,d1⟩,hv,ha⟩:=hc
 obtain⟨a0,a1⟩:=ZjL hg hx xs.length (by omega) h
 rw[List.take_length]at a0 a1
 have e:cells g d=((g.length:Int) - 1) ^ xs.length:=by unfold cells;rw[show d.toNat=xs.length by omega]
 omega
theorem at_ {g:List (List Int)} (hg:Grp g) {m d:Int} {v:List Int} (hc:Co g m d v) {xs:List Int} (hx:AllIn g.length xs) (hl:(xs.length:Int)=d) :
  Z6.f d v g xs=some (At g v xs):=by
 have hd:=hc.1
 have h1:=cell_ hg hx (by omega)
 rw[Z6.f_eq]
 unfold At
 by_cases h:Zbk xs
 ·
  obtain⟨a0,a1⟩:=Zdx hg hc hx hl h
  rw[ZbN h]at h1 ⊢
  ((with_reducible repeat (first|refine Zi (by first|assumption|omega|rfl|exact B_pos (by omega)) ?_|refine Zh (by first|assumption|omega|decide|exact B_not (by omega)) ?_|refine Zf (by first|assumption) ?_|dsimp only));first|done|(with_reducible rfl)|simp (disch:=omega) only[w64]|(show False;done))
 ·
  rw[ZbM h]at h1 ⊢
  ((with_reducible repeat (first|refine Zi (by first|assumption|omega|rfl|exact B_pos (by omega)) ?_|refine Zh (by first|assumption|omega|decide|exact B_not (by omega)) ?_|refine Zf (by first|assumption) ?_|dsimp only));first|done|(with_reducible rfl)|simp (disch:=omega) only[w64]|(show False;done))
theorem At_ {g:List (List Int)} (hg:Grp g) {m d:Int} {u v:List Int} (hc:Co g m d v) {xs:List Int} (hx:AllIn g.length xs) (hl:(xs.length:Int)=d) :
  Zag.f g d v xs=some (At g v xs):=by
 have hd:=hc.1
 rw[Zag.f_eq]
 have:=scan xs.length (fun i=>Zag.l0 xs (idx g (xs.take i.toNat)) i g d v) (fun j=>¬ rd xs j=0) (some 0) (fun i i0 i1 hz=>by
  obtain⟨n,rfl⟩:=Int.eq_ofNat_of_zero_le i0
  obtain⟨e1,e2⟩:=Zid hg hx (by omega) (n:=n) (by omega) hz
  refine⟨fun h => ?_,fun h => ?_⟩
  ·
   rw[Zag.l0_eq,ZaL.f_eq,Option.bind_some,Int.toNat_natCast,e1,e2,show((n:Int)+1).toNat=n+1 by omega]
   ((with_reducible repeat (first|refine Zi (by first|assumption|omega|rfl|exact B_pos (by omega)) ?_|refine Zh (by first|assumption|omega|decide|exact B_not (by omega)) ?_|refine Zf (by first|assumption) ?_|dsimp only));first|done|(with_reducible rfl)|simp (disch:=omega) only[w64]|(show False;done))
  ·
   (rw[Zag.l0_eq])
   ((with_reducible repeat (first|refine Zi (by first|assumption|omega|rfl|exact B_pos (by omega)) ?_|refine Zh (by first|assumption|omega|decide|exact B_not (by omega)) ?_|refine Zf (by first|assumption) ?_|dsimp only));first|done|(with_reducible rfl)|simp (disch:=omega) only[w64]|(show False;done)))
 simp only[Int.toNat_zero,List.take_zero,Int.toNat_natCast,List.take_length]at this
 unfold At
 rcases this with ⟨h1,h2⟩|⟨j,j0,j1,_,h1,_,h2⟩
 ·
  have h1:Zbk xs:=h1
  obtain⟨a0,a1⟩:=Zdx hg hc hx hl h1
  rw[ZbN h1,←show Zag.l0 xs (idx g []) 0 g d v=Zag.l0 xs 0 0 g d v from rfl,h2]
  (rw[Zag.l0_eq])
  ((with_reducible repeat (first|refine Zi (by first|assumption|omega|rfl|exact B_pos (by omega)) ?_|refine Zh (by first|assumption|omega|decide|exact B_not (by omega)) ?_|refine Zf (by first|assumption) ?_|dsimp only));first|done|(with_reducible rfl)|simp (disch:=omega) only[w64]|(show False;done))
 ·
  rw[ZbM fun q=>h1 (q j j0 j1)]
  exact h2
theorem At_bd {g:List (List Int)} (hg:Grp g) {m d:Int} {v:List Int} (m0:0 < m) (hc:Co g m d v) {xs:List Int} (hx:AllIn g.length xs) (hl:(xs.length:Int)=d):0≤At g v xs∧At g v xs < m:=by
 unfold At
 by_cases h:Zbk xs
 ·
  obtain⟨a0,a1⟩:=Zdx hg hc hx hl h
  rw[ZbN h]
  exact hc.2.2 _ a0 a1
 ·
  rw[ZbM h];omega
end Go.Proofs.Ytdamfbighdkcbaa.V
namespace Go.Proofs.Ytdamfbighdkcbaa.V
open Go.RowKit Go.Proofs.Ytdamfbighdkcbaa.D Go.Proofs.Ytdamfbighdkcbaa.P
def lst (b:Int):Nat→Int→List Int
 | 0,_=>[]
 | n+1,i=>lst b n (i / b)++[i%b+1]
theorem Zcg (b:Int):∀n i,(lst b n i).length=n:=by
 intro n
 induction n with
 | zero=>intro i;rfl
 | succ n ih=>intro i;simp[lst,ih]
theorem Zmq {b:Int} (hb:0 < b):∀n i,∀x∈lst b n i,1≤x∧x < b+1:=by
 intro n
 induction n with
 | zero=>intro i x hx;simp[lst]at hx
 | succ n ih =>
  intro i x hx
  have m0:=Int.emod_nonneg i (show b≠0 by omega)
  have m1:=Int.emod_lt_of_pos i hb
  rcases List.mem_append.1 hx with h|h
  ·
   exact ih _ x h
  ·
   rw[List.mem_singleton]at h;omega
theorem Ziu (n:Nat) (t:List Int) (x:Int):(List.replicate (n+1) 0++t).set n x=List.replicate n 0++(x :: t):=by
 rw[List.replicate_succ', List.append_assoc,List.set_append,if_neg (by simp)]
 simp
theorem Zmp {g:List (List Int)} (hg:Grp g) (n:Nat) (h2:n=0∨2≤g.length) (hn:n≤4) {i:Int} (i0:0≤i) (i1:i≤16807) :
  Zai.f g (n:Int) i=some (lst ((g.length:Int) - 1) n i)∧Zac.f g (n:Int) i=some (lst ((g.length:Int) - 1) n i):=by
 have n8:=hg.n8;have n1:=hg.n1
 obtain⟨b,hb⟩:∃b:Int,b=(g.length:Int) - 1:=⟨_,rfl⟩
 have hw0:wrapI ((g.length:Int) - 1)=b:=by rw[hb];exact w64 (by omega) (by omega)
 rw[←hb]
 have b1:n=0∨1≤b:=by omega
 have b7:b≤7:=by omega
 have fact:∀(n:Nat) (i:Int),n≤4→1≤b→0≤i→i≤16807→wrapI (Int.tdiv i b)=i / b∧wrapI (1+Int.tmod i b)=i%b+1∧wrapI (Int.tmod i b+1)=i%b+1∧wrapI ((n:Int) - 1)=(n:Int) - 1∧0≤i / b∧i / b≤16807:=by
  intro n i hn b1 i0 i1
  have m0:=Int.emod_nonneg i (show b≠0 by omega)
  have m1:=Int.emod_lt_of_pos i (show 0 < b by omega)
  have d0:0≤i / b:=Int.ediv_nonneg i0 (by omega)
  have d1:i / b≤i:=Int.ediv_le_self _ i0
  rw[Zf4 i0,ZeZ i0]
  exact⟨w64 (by omega) (by omega),by rw[w64 (by omega) (by omega)];omega,w64 (by omega) (by omega),w64 (by omega) (by omega),d0,by omega⟩
 have hwn:wrapI ((n:Int) - 1)=(n:Int) - 1:=w64 (by omega) (by omega)
 constructor
 ·
  rw[Zai.f_eq,Z8.f_eq,Option.bind_some,hw0,hwn,Int.toNat_natCast]
  (with_reducible repeat (first|refine Zi (by first|assumption|omega|rfl|exact B_pos (by omega)) ?_|refine Zh (by first|assumption|omega|decide|exact B_not (by omega)) ?_|refine Zf (by first|assumption) ?_|dsimp only))
  suffices H:∀(n:Nat) (i:Int) (t:List Int),n≤4→(n=0∨1≤b)→0≤i→i≤16807→Zai.l0 i b ((n:Int) - 1) (List.replicate n 0++t)=some (lst b n i++t)by
   simpa using H n i [] hn b1 i0 i1
  intro n
  induction n with
  | zero=>intro i t _ _ _ _;rw[Zai.l0_eq];(with_reducible repeat (first|refine Zi (by first|assumption|omega|rfl|exact B_pos (by omega)) ?_|refine Zh (by first|assumption|omega|decide|exact B_not (by omega)) ?_|refine Zf (by first|assumption) ?_|dsimp only));rfl
  | succ n ih =>
   intro i t hn b1 i0 i1
   obtain⟨f1,f2,f3,f5,f6,f7⟩:=fact n i (by omega) (by omega) i0 i1
   have h:=ih (i / b) ((i%b+1) :: t) (by omega) (by omega) f6 f7
   have e:((n+1:Nat):Int) - 1=(n:Int):=by omega
   have l1:(List.replicate (n+1) (0:Int)++t).length=n+1+t.length:=by rw[List.length_append,List.length_replicate]
   rw[e,Zai.l0_eq,f1,f2,f5,Int.toNat_natCast,Ziu]
   (with_reducible repeat (first|refine Zi (by first|assumption|omega|rfl|exact B_pos (by omega)) ?_|refine Zh (by first|assumption|omega|decide|exact B_not (by omega)) ?_|refine Zf (by first|assumption) ?_|dsimp only))
   rw[h,lst,List.append_assoc,List.singleton_append]
 ·
  rw[Zac.f_eq,ZaL.f_eq,Option.bind_some,hw0,hwn,Int.toNat_natCast]
  (with_reducible repeat (first|refine Zi (by first|assumption|omega|rfl|exact B_pos (by omega)) ?_|refine Zh (by first|assumption|omega|decide|exact B_not (by omega)) ?_|refine Zf (by first|assumption) ?_|dsimp only))
  suffices H:∀(n:Nat) (i:Int) (t:List Int),n≤4→(n=0∨1≤b)→0≤i→i≤16807→Zac.l0 i b ((n:Int) - 1) (List.replicate n 0++t)=some (lst b n i++t)by
   simpa using H n i [] hn b1 i0 i1
  intro n
  induction n with
  | zero=>intro i t _ _ _ _;rw[Zac.l0_eq];(with_reducible repeat (first|refine Zi (by first|assumption|omega|rfl|exact B_pos (by omega)) ?_|refine Zh (by first|assumption|omega|decide|exact B_not (by omega)) ?_|refine Zf (by first|assumption) ?_|dsimp only));rfl
  | succ n ih =>
   intro i t hn b1 i0 i1
   obtain⟨f1,f2,f3,f5,f6,f7⟩:=fact n i (by omega) (by omega) i0 i1
   have h:=ih (i / b) ((i%b+1) :: t) (by omega) (by omega) f6 f7
   have e:((n+1:Nat):Int) - 1=(n:Int):=by omega
   have l1:(List.replicate (n+1) (0:Int)++t).length=n+1+t.length:=by rw[List.length_append,List.length_replicate]
   rw[e,Zac.l0_eq,f1,f3,f5,Int.toNat_natCast,Ziu]
   (with_reducible repeat (first|refine Zi (by first|assumption|omega|rfl|exact B_pos (by omega)) ?_|refine Zh (by first|assumption|omega|decide|exact B_not (by omega)) ?_|refine Zf (by first|assumption) ?_|dsimp only))
   rw[h,lst,List.append_assoc,List.singleton_append]
theorem cells_two {g:List (List Int)} (hg:Grp g) {n:Nat} (hc:0 < cells g n):n=0∨2≤g.length:=by
 have n1:=hg.n1
 by_cases h:n=0
 ·
  exact .inl h
 by_cases h2:2≤g.length
 ·
  exact .inr h2
 ·
  have:(g.length:Int) - 1=0:=by omega
  have e:cells g (n:Int)=0:=by unfold cells;rw[this,Int.toNat_natCast];exact Int.zero_pow h
  omega
theorem Zgd {g:List (List Int)} (hg:Grp g) {n i:Nat} (hn:n≤4) (hi:(i:Int) < cells g n):Zai.f g (n:Int) i=some (lst ((g.length:Int) - 1) n i)∧Zac.f g (n:Int) i=some (lst ((g.length:Int) - 1) n i):=by
 have hb:=Zdt hg (d:=(n:Int)) (by omega)
 exact Zmp hg n (cells_two hg (by omega)) hn (by omega) (by omega)
theorem ZfG {g:List (List Int)} (hg:Grp g) {n i:Nat} (hi:(i:Int) < cells g n):AllIn g.length (lst ((g.length:Int) - 1) n i)∧Zbk (lst ((g.length:Int) - 1) n i):=by
 have n1:=hg.n1
 have H:∀x∈lst ((g.length:Int) - 1) n i,1≤x∧x < g.length:=by
  rcases cells_two hg (show 0 < cells g n by omega)with h|g2
  ·
   subst h;intro x hx;simp[lst]at hx
  ·
   intro x hx
   have:=Zmq (b:=(g.length:Int) - 1) (by omega) n i x hx
   omega
 exact⟨Zbq fun x hx=>by have:=H x hx;omega,fun j j0 j1 h=>by have:=H _ (ZeT j0 j1);omega⟩
theorem ZiL (G:Nat→Int) (n i:Nat) (h:i < n):((List.range i).map G++List.replicate (n - i) 0).set i (G i)=(List.range (i+1)).map G++List.replicate (n - (i+1)) 0:=by
 rw[List.set_append,if_neg (by simp),List.length_map,List.length_range,Nat.sub_self,show n - i=(n - (i+1))+1 by omega,List.replicate_succ,List.set_cons_zero,List.range_succ,List.map_append]
 simp
theorem Zjp (G:Nat→Int) (n i:Nat) (h:i≤n):((List.range i).map G++List.replicate (n - i) 0).length=n:=by rw[List.length_append,List.length_map,List.length_range,List.length_replicate];omega
theorem ZlW {a m:Int} (m0:0 < m) (m1:m≤1000000):Int.tmod (wrapI (Int.tmod a m+m)) m=a%m:=by
 have t0:=Int.tmod_lt_of_pos a m0
 have t1 : -m < Int.tmod a m:=Int.lt_tmod_of_pos a m0
 have hq:=Int.mul_tdiv_add_tmod a m
 have h5:(m*a.tdiv m+a.tmod m)%m=a.tmod m%m:=by rw[Int.add_comm,Int.add_mul_emod_self_left]
 rw[hq]at h5
 rw[w64 (by omega) (by omega),Int.tmod_eq_emod_of_nonneg (show 0≤Int.tmod a m+m by omega),Int.add_emod_right,←h5]
theorem zero_ {g:List (List Int)} (hg:Grp g) {n:Nat} (hn:n≤4):ZaM.f g (n:Int)=some ((n:Int),List.replicate (cells g n).toNat 0):=by
 have hb:=Zdt hg (d:=(n:Int)) (by omega)
 have hc:=Ze2 hg (d:=(n:Int)) (by omega) (by omega)
 rw[ZaM.f_eq]
 ((with_reducible repeat (first|refine Zi (by first|assumption|omega|rfl|exact B_pos (by omega)) ?_|refine Zh (by first|assumption|omega|decide|exact B_not (by omega)) ?_|refine Zf (by first|assumption) ?_|dsimp only));first|done|(with_reducible rfl)|simp (disch:=omega) only[w64]|(show False;done))
theorem told {g:List (List Int)} (hg:Grp g) {m:Int} (m2:2≤m) (m12:m≤12) {n:Nat} (hn:n≤4) {F:List Int→Option Int} {G:Nat→Int} (hF:∀i:Nat,(i:Int) < cells g n→F (lst ((g.length:Int) - 1) n i)=some (G i)) :
  ZaI.f g m (n:Int) F=some ((n:Int),(List.range (cells g n).toNat).map fun i=>G i%m):=by
 have hb:=Zdt hg (d:=(n:Int)) (by omega)
 have hz:=zero_ hg hn
 obtain⟨N,hN⟩:∃N,N=(cells g n).toNat:=⟨_,rfl⟩
 rw[ZaI.f_eq,hz,Option.bind_some,←hN]
 have:=up N (fun j=>ZaI.l0 m (n:Int) F (N:Int) (j:Int) g 0 (n:Int) ((List.range j).map (fun i=>G i%m)++List.replicate (N - j) 0)) (fun j h=>by
  have hw:wrapI ((j:Int)+1)=((j+1:Nat):Int):=by rw[w64 (by omega) (by omega)];omega
  have f:=hF j (by omega)
  have hl:=(Zgd hg hn (i:=j) (by omega)).1
  have l1:=Zjp (fun i=>G i%m) N j (by omega)
  have e:=ZlW (a:=G j) (m:=m) (by omega) (by omega)
  rw[←ZiL (fun i=>G i%m) N j h,ZaI.l0_eq,hw,hl,Option.bind_some,f,Option.bind_some,e,Int.toNat_natCast]
  ((with_reducible repeat (first|refine Zi (by first|assumption|omega|rfl|exact B_pos (by omega)) ?_|refine Zh (by first|assumption|omega|decide|exact B_not (by omega)) ?_|refine Zf (by first|assumption) ?_|dsimp only));first|done|(with_reducible rfl)|simp (disch:=omega) only[w64]|(show False;done)))
 simp only[Int.natCast_zero,List.range_zero,List.map_nil,List.nil_append,Nat.sub_zero,Nat.sub_self,List.replicate_zero,List.append_nil]at this
 simp only[List.length_replicate]
 rw[this,ZaI.l0_eq]
 ((with_reducible repeat (first|refine Zi (by first|assumption|omega|rfl|exact B_pos (by omega)) ?_|refine Zh (by first|assumption|omega|decide|exact B_not (by omega)) ?_|refine Zf (by first|assumption) ?_|dsimp only));first|done|(with_reducible rfl)|simp (disch:=omega) only[w64]|(show False;done))
end Go.Proofs.Ytdamfbighdkcbaa.V
namespace Go.Proofs.Ytdamfbighdkcbaa.V
open Go.RowKit Go.Proofs.Ytdamfbighdkcbaa.D Go.Proofs.Ytdamfbighdkcbaa.P
def join2 (g:List (List Int)) (xs:List Int) (j:Nat):List Int:=(xs.take j++[T g (rd xs j) (rd xs (j+1:Nat))])++xs.drop (j+2)
noncomputable def bsum (g:List (List Int)) (u v xs:List Int):Nat→Int×Int
 | 0=>(rd u (rd xs 0)*At g v (xs.drop 1),-1)
 | j+1=>((bsum g u v xs j).1+(bsum g u v xs j).2*At g v (join2 g xs j),0 - (bsum g u v xs j).2)
noncomputable def Bd (g:List (List Int)) (u v xs:List Int) (d:Nat):Int:=(bsum g u v xs d).1+(bsum g u v xs d).2*At g v (xs.take d)
theorem Zel {g:List (List Int)} (hg:Grp g) {xs:List Int} (hx:AllIn g.length xs) {j:Nat} (hj:j+1 < xs.length):AllIn g.length (join2 g xs j)∧(join2 g xs j).length+1=xs.length:=by
 obtain⟨a0,a1⟩:=hx j (by omega) (by omega)
 obtain⟨b0,b1⟩:=hx (j+1:Nat) (by omega) (by omega)
 obtain⟨t0,t1⟩:=hg.ent _ _ a0 a1 b0 b1
 refine⟨AllIn.append (AllIn.append (hx.take j) (Zf8 t0 t1)) (hx.drop _),?_⟩
 simp only[join2,List.length_append,List.length_take,List.length_drop,List.length_singleton]
 omega
theorem ZlG {g:List (List Int)} (hg:Grp g) {m:Int} {u v xs:List Int} {d:Nat} (hm:Mdl g m u) (hc:Co g m d v) (hx:AllIn g.length xs) (hl:xs.length=d+1) :
  ∀j,j≤d→(-1000000 - 12*(j:Int)≤(bsum g u v xs j).1∧(bsum g u v xs j).1≤1000000+12*(j:Int))∧((bsum g u v xs j).2=1∨(bsum g u v xs j).2 = -1):=by
 have m2:=hm.m2;have m12:=hm.m12
 obtain⟨x0,x1⟩:=hx 0 (by omega) (by omega)
 intro j
 induction j with
 | zero =>
  intro _
  have ha:=At_bd hg (by omega) hc (hx.drop 1) (by rw[List.length_drop,hl];simp)
  obtain⟨c0,c1⟩:=Zfp hm x0 x1 ha.1 ha.2
  rw[show bsum g u v xs 0=(rd u (rd xs 0)*At g v (xs.drop 1),-1)from rfl]
  exact⟨⟨by dsimp only;omega,by dsimp only;omega⟩,.inr rfl⟩
 | succ j ih =>
  intro hj
  obtain⟨⟨h1,h2⟩,h3⟩:=ih (by omega)
  obtain⟨k1,k2⟩:=Zel hg hx (j:=j) (by omega)
  have ha:=At_bd hg (by omega) hc k1 (by omega)
  simp only[bsum]
  rcases h3 with h3|h3 <;> rw[h3] <;> refine⟨⟨by omega,by omega⟩,?_⟩
  ·
   exact .inr rfl
  ·
   exact .inl rfl
theorem ZhQ {g:List (List Int)} (hg:Grp g) {m:Int} {u v xs ys:List Int} {d:Nat} (hm:Mdl g m u) (hc:Co g m d v) (hx:AllIn g.length xs) (hl:xs.length=d+1) {j:Nat} (hj:j≤d) (hy:AllIn g.length ys) (hyl:ys.length=d) :
  wrapI ((bsum g u v xs j).1+wrapI ((bsum g u v xs j).2*At g v ys))=(bsum g u v xs j).1+(bsum g u v xs j).2*At g v ys∧wrapI (0 - (bsum g u v xs j).2)=0 - (bsum g u v xs j).2 ∧ -2000000≤(bsum g u v xs j).1+(bsum g u v xs j).2*At g v ys∧(bsum g u v xs j).1+(bsum g u v xs j).2*At g v ys≤2000000:=by
 have m2:=hm.m2;have m12:=hm.m12;have d3:=hc.1.2
 obtain⟨⟨s1,s2⟩,s3⟩:=ZlG hg hm hc hx hl j hj
 have hb:=At_bd hg (by omega) hc hy (by omega)
 have p1 : -100≤(bsum g u v xs j).2*At g v ys∧(bsum g u v xs j).2*At g v ys≤100:=by rcases s3 with s3|s3 <;> rw[s3] <;> omega
 rw[w64 (x:=(bsum g u v xs j).2*At g v ys) (by omega) (by omega)]
 exact⟨w64 (by omega) (by omega),w64 (by omega) (by omega),by omega,by omega⟩
theorem Zln {g:List (List Int)} (hg:Grp g) {m:Int} {u v xs:List Int} {d:Nat} (hm:Mdl g m u) (hc:Co g m d v) (hx:AllIn g.length xs) (hl:xs.length=d+1) :
  wrapI (rd u (rd xs 0)*At g v (xs.drop 1))=rd u (rd xs 0)*At g v (xs.drop 1):=by
 have m2:=hm.m2;have m12:=hm.m12
 obtain⟨x0,x1⟩:=hx 0 (by omega) (by omega)
 have ha:=At_bd hg (by omega) hc (hx.drop 1) (by rw[List.length_drop,hl];simp)
 obtain⟨c0,c1⟩:=Zfp hm x0 x1 ha.1 ha.2
 exact w64 (by omega) (by omega)
theorem Own_ (xs:List Int) (hl:xs.length≤1048576):Zan.f xs=some xs:=by
 rw[Zan.f_eq,List.nil_append,show([]:List Int).length=0 from rfl]
 ((with_reducible repeat (first|refine Zi (by first|assumption|omega|rfl|exact B_pos (by omega)) ?_|refine Zh (by first|assumption|omega|decide|exact B_not (by omega)) ?_|refine Zf (by first|assumption) ?_|dsimp only));first|done|(with_reducible rfl)|simp (disch:=omega) only[w64]|(show False;done))
theorem w2n {j:Nat} (h:j < 4611686018427387904):wrapI ((j:Int)+2)=((j+2:Nat):Int):=by rw[w64 (by omega) (by omega)];omega
theorem ZiJ {g:List (List Int)} (hg:Grp g) {m:Int} {u v xs:List Int} {d:Nat} (hm:Mdl g m u) (hc:Co g m d v) (hx:AllIn g.length xs) (hl:xs.length=d+1) :
  ZM.f g m u d v xs=some (Bd g u v xs d):=by
 have hlu:=hm.len;have n8:=hg.n8;have d3:=hc.1.2
 obtain⟨x0,x1⟩:=hx 0 (by omega) (by omega)
 have h0:=at_ hg hc (hx.drop 1) (by rw[List.length_drop,hl];simp)
 have hat:=at_ hg hc (hx.take d) (by rw[List.length_take,hl];omega)
 have loop:=up d (fun i=>ZM.l0 xs (d:Int) (bsum g u v xs i).1 (bsum g u v xs i).2 (d:Int) (i:Int) g d v) (fun j hj=>by
  obtain⟨a0,a1⟩:=hx j (by omega) (by omega)
  obtain⟨b0,b1⟩:=hx (j+1:Nat) (by omega) (by omega)
  obtain⟨k1,k2⟩:=Zel hg hx (j:=j) (by omega)
  have hv:Z6.f d v g (xs.take j++[T g (rd xs j) (rd xs (j+1:Nat))]++xs.drop (j+2))=some (At g v (join2 g xs j)):=show Z6.f d v g (join2 g xs j)=_ from at_ hg hc k1 (by omega)
  have ht:=times2 hg a0 a1 b0 b1
  obtain⟨w3,w4,_,_⟩:=ZhQ hg hm hc hx hl (j:=j) (by omega) k1 (by omega)
  have z1:(xs.take j).length=j:=by rw[List.length_take];omega
  have z0:([]:List Int).length=0:=rfl
  have z2:∀y:Int,([y]:List Int).length=1:=fun _=>rfl
  have z3:(xs.drop (j+2)).length=xs.length - (j+2):=List.length_drop
  rw[ZM.l0_eq,wn (j:=j) (by omega),w2n (j:=j) (by omega),Int.toNat_natCast,Int.toNat_natCast,z0,List.nil_append,z1,ht,Option.bind_some,z2]
  rw[List.length_append,z1,z2,z3,hv,Option.bind_some,w3,w4]
  (with_reducible repeat (first|refine Zi (by first|assumption|omega|rfl|exact B_pos (by omega)) ?_|refine Zh (by first|assumption|omega|decide|exact B_not (by omega)) ?_|refine Zf (by first|assumption) ?_|dsimp only))
  rfl)
 have wl:wrapI ((xs.length:Int) - 1)=(d:Int):=by rw[w64 (by omega) (by omega)];omega
 obtain⟨w3,_,_,_⟩:=ZhQ hg hm hc hx hl (j:=d) (by omega) (hx.take d) (by rw[List.length_take];omega)
 have e1:xs.drop (1:Int).toNat=xs.drop 1:=rfl
 rw[ZM.f_eq,e1,h0,Option.bind_some,wl,Zln hg hm hc hx hl]
 (with_reducible repeat (first|refine Zi (by first|assumption|omega|rfl|exact B_pos (by omega)) ?_|refine Zh (by first|assumption|omega|decide|exact B_not (by omega)) ?_|refine Zf (by first|assumption) ?_|dsimp only))
 refine loop.trans ?_
 rw[ZM.l0_eq,Int.toNat_natCast,hat,Option.bind_some,w3]
 (with_reducible repeat (first|refine Zi (by first|assumption|omega|rfl|exact B_pos (by omega)) ?_|refine Zh (by first|assumption|omega|decide|exact B_not (by omega)) ?_|refine Zf (by first|assumption) ?_|dsimp only))
 rfl
theorem Side_ {g:List (List Int)} (hg:Grp g) {m:Int} {u v xs:List Int} {d:Nat} (hm:Mdl g m u) (hc:Co g m d v) (hx:AllIn g.length xs) (hl:xs.length=d+1) :
  Zad.f g m u d v xs=some (Bd g u v xs d%m):=by
 have hlu:=hm.len;have n8:=hg.n8;have d3:=hc.1.2;have m2:=hm.m2;have m12:=hm.m12
 obtain⟨x0,x1⟩:=hx 0 (by omega) (by omega)
 have h0:=At_ (u:=u) hg hc (hx.drop 1) (by rw[List.length_drop,hl];simp)
 have hat:=At_ (u:=u) hg hc (hx.take d) (by rw[List.length_take,hl];omega)
 have loop:=up d (fun i=>Zad.l0 xs (d:Int) (bsum g u v xs i).1 (bsum g u v xs i).2 (i:Int) g m u d v) (fun j hj=>by
  obtain⟨a0,a1⟩:=hx j (by omega) (by omega)
  obtain⟨b0,b1⟩:=hx (j+1:Nat) (by omega) (by omega)
  obtain⟨k1,k2⟩:=Zel hg hx (j:=j) (by omega)
  have hv:Zag.f g d v (xs.take j++[T g (rd xs j) (rd xs (j+1:Nat))]++xs.drop (j+2))=some (At g v (join2 g xs j)):=show Zag.f g d v (join2 g xs j)=_ from At_ (u:=u) hg hc k1 (by omega)
  have ra:=hg.row _ a0 a1
  obtain⟨w3,w4,_,_⟩:=ZhQ hg hm hc hx hl (j:=j) (by omega) k1 (by omega)
  have z1:(xs.take j).length=j:=by rw[List.length_take];omega
  have z2:∀y:Int,([y]:List Int).length=1:=fun _=>rfl
  have z3:(xs.drop (j+2)).length=xs.length - (j+2):=List.length_drop
  have ho:=Own_ (xs.take j) (by omega)
  rw[Zad.l0_eq,wn (j:=j) (by omega),w2n (j:=j) (by omega),Int.toNat_natCast,Int.toNat_natCast,ho,Option.bind_some,z2]
  rw[List.length_append,z1,z2,z3,hv,Option.bind_some,w3,w4]
  (with_reducible repeat (first|refine Zi (by first|assumption|omega|rfl|exact B_pos (by omega)) ?_|refine Zh (by first|assumption|omega|decide|exact B_not (by omega)) ?_|refine Zf (by first|assumption) ?_|dsimp only))
  rfl)
 have wl:wrapI ((xs.length:Int) - 1)=(d:Int):=by rw[w64 (by omega) (by omega)];omega
 obtain⟨w3,_,b1,b2⟩:=ZhQ hg hm hc hx hl (j:=d) (by omega) (hx.take d) (by rw[List.length_take];omega)
 have e1:xs.drop (1:Int).toNat=xs.drop 1:=rfl
 have hmod:=Mod_ (a:=(bsum g u v xs d).1+(bsum g u v xs d).2*At g v (xs.take d)) (m:=m) (by omega) (by omega) (by omega) (by omega)
 rw[Zad.f_eq,e1,h0,Option.bind_some,wl,Zln hg hm hc hx hl]
 (with_reducible repeat (first|refine Zi (by first|assumption|omega|rfl|exact B_pos (by omega)) ?_|refine Zh (by first|assumption|omega|decide|exact B_not (by omega)) ?_|refine Zf (by first|assumption) ?_|dsimp only))
 refine loop.trans ?_
 rw[Zad.l0_eq,Int.toNat_natCast,hat,Option.bind_some,w3,hmod]
 (with_reducible repeat (first|refine Zi (by first|assumption|omega|rfl|exact B_pos (by omega)) ?_|refine Zh (by first|assumption|omega|decide|exact B_not (by omega)) ?_|refine Zf (by first|assumption) ?_|dsimp only))
 rfl
noncomputable def bdV (g:List (List Int)) (u v:List Int) (d i:Nat):Int:=Bd g u v (lst ((g.length:Int) - 1) (d+1) (i:Int)) d
noncomputable def bdL (g:List (List Int)) (m:Int) (u v:List Int) (d:Nat):List Int:=(List.range (cells g ((d+1:Nat):Int)).toNat).map fun i=>bdV g u v d i%m
theorem Zgc {g:List (List Int)} (hg:Grp g) {m:Int} {u v:List Int} {d:Nat} (hm:Mdl g m u) (hc:Co g m d v):Zah.f g m u d v=some (((d+1:Nat):Int),bdL g m u v d):=by
 have d3:=hc.1.2
 have hT:=told hg hm.m2 hm.m12 (n:=d+1) (by omega) (F:=fun z0=>(Zae.f z0 g m u d v).map fun z=>z) (G:=bdV g u v d) (fun i hi=>by
  obtain⟨hx,_⟩:=ZfG hg (n:=d+1) (i:=i) hi
  have hll:=Zcg ((g.length:Int) - 1) (d+1) i
  have e:Zae.f (lst ((g.length:Int) - 1) (d+1) i) g m u d v=some (bdV g u v d i):=by
   rw[Zae.f_eq,ZiJ hg hm hc hx hll];rfl
  show Option.map _ (Zae.f _ g m u d v)=_
  rw[e];rfl)
 rw[Zah.f_eq,wn (j:=d) (by omega),hT]
 rfl
end Go.Proofs.Ytdamfbighdkcbaa.V
namespace Go.Proofs.Ytdamfbighdkcbaa.V
open Go.RowKit Go.Proofs.Ytdamfbighdkcbaa.D
abbrev Vc:=Nat→Int
inductive Sp (m:Int) (W:Nat) (G:Vc→Prop):Vc→Prop
 | nil:Sp m W G (fun _=>0)
 | add {x g:Vc} (c:Int):Sp m W G x→G g→Sp m W G (fun i=>x i+c*g i)
 | alike {x y:Vc}:Sp m W G x→(∀i,i < W→m∣x i - y i)→Sp m W G y
section
variable {m:Int} {W:Nat} {G G' : Vc→Prop} {x y:Vc}
theorem Zas {m a b:Int} (h:a=b):m∣a - b:=⟨0,by omega⟩
theorem Sp.plus (hx:Sp m W G x) (hy:Sp m W G y):Sp m W G (fun i=>x i+y i):=by
 induction hy with
 | nil=>exact .alike hx fun i _=>Zas (by dsimp only;omega)
 | add c _ hg ih=>exact .alike (.add c ih hg) fun i _=>Zas (by dsimp only;omega)
 | alike _ h ih =>
  refine .alike ih fun i hi => ?_
  have:=h i hi
  rwa[show ∀a b c:Int,a+b - (a+c)=b - c from fun a b c=>by omega]
theorem Sp.mul (c:Int) (hx:Sp m W G x):Sp m W G (fun i=>c*x i):=by
 induction hx with
 | nil=>exact .alike .nil fun i _=>Zas (by simp)
 | add d _ hg ih=>exact .alike (.add (c*d) ih hg) fun i _=>Zas (by rw[Int.mul_add,Int.mul_assoc])
 | alike _ h ih =>
  refine .alike ih fun i hi => ?_
  rw[←Int.mul_sub]
  exact Int.dvd_mul_of_dvd_right (h i hi)
theorem Sp.gen {g:Vc} (h:G g):Sp m W G g := .alike (.add 1 .nil h) fun i _=>Zas (by omega)
theorem Sp.mono (h:∀g,G g→Sp m W G' g) (hx:Sp m W G x):Sp m W G' x:=by
 induction hx with
 | nil=>exact .nil
 | add c _ hg ih=>exact ih.plus ((h _ hg).mul c)
 | alike _ h' ih=>exact .alike ih h'
theorem Sp.two {a b:Int} (hx:Sp m W G x) (hy:Sp m W G y) {z:Vc} (h:∀i,i < W→m∣a*x i+b*y i - z i):Sp m W G z := .alike ((hx.mul a).plus (hy.mul b)) h
theorem Sp.dvd {d:Int} (hd:d∣m) {i:Nat} (hi:i < W) (h:∀g,G g→d∣g i) (hx:Sp m W G x):d∣x i:=by
 induction hx with
 | nil=>exact Int.dvd_zero d
 | add c _ hg ih=>exact Int.dvd_add ih (Int.dvd_mul_of_dvd_right (h _ hg))
 | alike _ h' ih =>
  have:=Int.dvd_sub ih (Int.dvd_trans hd (h' i hi))
  rwa[show ∀a b:Int,a - (a - b)=b from fun a b=>by omega]at this
structure Sub (m:Int) (W:Nat) (M:Vc→Prop):Prop where
 zero:M fun _=>0
 lin:∀x y,M x→M y→∀c,M fun i=>x i+c*y i
 alike:∀x y,M x→(∀i,i < W→m∣x i - y i)→M y
theorem Sp.sub:Sub m W (Sp m W G):=⟨.nil,fun _ _ hx hy c=>hx.plus (hy.mul c),fun _ _ hx h => .alike hx h⟩
theorem Sub.all {M:Vc→Prop} (hM:Sub m W M) (h:∀g,G g→M g) (hx:Sp m W G x):M x:=by
 induction hx with
 | nil=>exact hM.zero
 | add c _ hg ih=>exact hM.lin _ _ ih (h _ hg) c
 | alike _ h' ih=>exact hM.alike _ _ ih h'
end
def V (x:List Int):Vc:=fun i=>rd x (i:Int)
structure PRow (m:Int) (W j:Nat) (r:List Int):Prop where
 len:r.length=W
 ent:AllIn m r
 zero:∀i:Nat,i < j→rd r (i:Int)=0
 pos:0 < rd r (j:Int)
 lt:rd r (j:Int) < m
 dvd:rd r (j:Int)∣m
structure PTab (m:Int) (W:Nat) (p:List (List Int)):Prop where
 len:p.length=W
 rws:∀j:Nat,j < W→row p (j:Int)=[]∨PRow m W j (row p (j:Int))
def Rws (W:Nat) (p:List (List Int)) (k:Nat):Vc→Prop:=fun g=>∃j:Nat,k≤j∧j < W∧row p (j:Int)≠[]∧g=V (row p (j:Int))
def GT (W:Nat) (p st:List (List Int)) (k:Nat):Vc→Prop:=fun g=>Rws W p k g∨∃s∈st,(∀i:Nat,i < k→rd s (i:Int)=0)∧g=V s
def How (m:Int) (W:Nat) (p:List (List Int)) (G:Nat→Vc→Prop):Prop:=∀j:Nat,j < W→row p (j:Int)≠[]→Sp m W (G (j+1)) (fun i=>m / rd (row p (j:Int)) (j:Int)*rd (row p (j:Int)) (i:Int))
structure Inv (m:Int) (W:Nat) (p st:List (List Int)):Prop where
 tab:PTab m W p
 sts:∀s∈st,s.length=W∧AllIn m s
 how:How m W p (GT W p st)
def dv (m:Int) (p:List (List Int)) (j:Nat):Int:=if row p (j:Int)=[]then m else rd (row p (j:Int)) (j:Int)
structure Lead (m:Int) (W:Nat) (p:List (List Int)) (M:Vc→Prop):Prop where
 tab:PTab m W p
 sub:Sub m W M
 own:∀j:Nat,j < W→row p (j:Int)≠[]→M (V (row p (j:Int)))
 lead:∀x,M x→∀j:Nat,j < W→(∀i:Nat,i < j→m∣x i)→dv m p j∣x j
section
variable {m:Int} {W:Nat} {p:List (List Int)}
theorem PTab.prow (h:PTab m W p) {j:Nat} (hj:j < W) (hr:row p (j:Int)≠[]):PRow m W j (row p (j:Int)):=(h.rws j hj).resolve_left hr
theorem Rws.zero (h:PTab m W p) {k j:Nat} {g:Vc} (hg:Rws W p k g) (hj:j < k):g j=0:=by
 obtain⟨i,h1,h2,h3,rfl⟩:=hg
 exact(h.prow h2 h3).zero j (by omega)
theorem Rws.part {k:Nat} (hk:k < W) (hr:row p (k:Int)≠[]) {x:Vc} (hx:Sp m W (Rws W p k) x):∃(c:Int) (w:Vc),Sp m W (Rws W p (k+1)) w∧∀i,i < W→m∣c*V (row p (k:Int)) i+w i - x i:=by
 induction hx with
 | nil=>exact⟨0,_,.nil,fun i _=>Zas (by simp)⟩
 | add d _ hg ih =>
  obtain⟨c,w,h1,h2⟩:=ih
  obtain⟨j,j1,j2,j3,rfl⟩:=hg
  by_cases e:j=k
  ·
   subst e
   refine⟨c+d,w,h1,fun i hi => ?_⟩
   have:=h2 i hi
   rw[Int.add_mul]
   rwa[show ∀a b c d:Int,a+b+c - (d+b)=a+c - d from fun a b c d=>by omega]
  ·
   refine⟨c,_,.add d h1 ⟨j,by omega,j2,j3,rfl⟩,fun i hi => ?_⟩
   have:=h2 i hi
   dsimp only
   rwa[show ∀a b c d:Int,a+(b+c) - (d+c)=a+b - d from fun a b c d=>by omega]
 | alike _ h ih =>
  obtain⟨c,w,h1,h2⟩:=ih
  refine⟨c,w,h1,fun i hi => ?_⟩
  have:=Int.dvd_add (h2 i hi) (h i hi)
  rwa[show ∀a b c:Int,a - b+(b - c)=a - c from fun a b c=>by omega]at this
theorem Rws.next {k:Nat} (hr:row p (k:Int)=[]) {x:Vc} (hx:Sp m W (Rws W p k) x):Sp m W (Rws W p (k+1)) x:=hx.mono fun g ⟨j,j1,j2,j3,e⟩ => .gen ⟨j,by
 rcases Nat.lt_or_eq_of_le j1 with h|rfl
 ·
  exact h
 ·
  exact absurd hr j3,j2,j3,e⟩
theorem Rws.down (m0:0 < m) (ht:PTab m W p) (hh:How m W p (Rws W p)) {x:Vc} (hx:Sp m W (Rws W p 0) x) {j:Nat} (hj:j≤W) (hz:∀i:Nat,i < j→m∣x i):∀k,k≤j→Sp m W (Rws W p k) x:=by
 intro k
 induction k with
 | zero=>exact fun _=>hx
 | succ k ih =>
  intro hk
  have h:=ih (by omega)
  by_cases hr:row p (k:Int)=[]
  ·
   exact Rws.next hr h
  have hp:=ht.prow (by omega) hr
  obtain⟨c,w,h1,h2⟩:=Rws.part (by omega) hr h
  have hw:m∣w k:=h1.dvd (Int.dvd_refl m) (by omega) fun g hg=>by rw[Rws.zero ht hg (by omega)];exact Int.dvd_zero m
  have hc:m∣c*rd (row p (k:Int)) (k:Int):=by
   have:=Int.dvd_add (h2 k (by omega)) (hz k (by omega))
   rw[show ∀a b c:Int,a+b - c+c=a+b from fun a b c=>by omega]at this
   have:=Int.dvd_sub this hw
   rwa[show ∀a b:Int,a+b - b=a from fun a b=>by omega]at this
  obtain⟨q,hq⟩:=hp.dvd
  have hd:=hp.pos
  have hmd:m / rd (row p (k:Int)) (k:Int)=q:=by rw[hq];exact Int.mul_ediv_cancel_left _ (by omega)
  obtain⟨t,ht'⟩:q∣c:=by
   obtain⟨t,ht'⟩:=hc
   refine⟨t,Int.eq_of_mul_eq_mul_left (show rd (row p (k:Int)) (k:Int)≠0 by omega) ?_⟩
   rw[Int.mul_comm,ht', hq,Int.mul_assoc]
  have hH:=hh k (by omega) hr
  rw[hmd]at hH
  refine .alike ((hH.mul t).plus h1) fun i hi => ?_
  have:=h2 i hi
  rwa[show t*(q*rd (row p (k:Int)) (i:Int))=c*V (row p (k:Int)) i by rw[ht', ←Int.mul_assoc,Int.mul_comm t q];rfl]
theorem ZlT (m0:0 < m) (ht:PTab m W p) (hh:How m W p (Rws W p)) {M:Vc→Prop} (hM:∀x,Sp m W (Rws W p 0) x↔M x):Lead m W p M where
 tab:=ht
 sub:=by rw[show M=Sp m W (Rws W p 0)from funext fun x=>propext (hM x).symm];exact Sp.sub
 own:=fun j hj hr=>(hM _).1 (.gen ⟨j,Nat.zero_le _,hj,hr,rfl⟩)
 lead:=fun x hx j hj hz=>by
  have h:=Rws.down m0 ht hh ((hM x).2 hx) (Nat.le_of_lt hj) hz j (Nat.le_refl _)
  unfold dv
  by_cases hr:row p (j:Int)=[]
  ·
   rw[if_pos hr]
   exact(Rws.next hr h).dvd (Int.dvd_refl m) hj fun g hg=>by rw[Rws.zero ht hg (by omega)];exact Int.dvd_zero m
  ·
   rw[if_neg hr]
   have hp:=ht.prow hj hr
   refine h.dvd hp.dvd hj fun g hg => ?_
   obtain⟨i,i1,i2,i3,rfl⟩:=hg
   by_cases e:i=j
   ·
    subst e;exact Int.dvd_refl _
   ·
    have:V (row p (i:Int)) j=0:=(ht.prow i2 i3).zero j (by omega)
    rw[this];exact Int.dvd_zero _
theorem dv_bd (m0:0 < m) (ht:PTab m W p) {j:Nat} (hj:j < W):0 < dv m p j∧dv m p j≤m∧dv m p j∣m:=by
 unfold dv
 by_cases hr:row p (j:Int)=[]
 ·
  rw[if_pos hr];exact⟨m0,Int.le_refl _,Int.dvd_refl _⟩
 ·
  rw[if_neg hr]
  have hp:=ht.prow hj hr
  exact⟨hp.pos,by have:=hp.lt;omega,hp.dvd⟩
theorem ZjD {a b:Int} (ha:0 < a) (hb:0 < b) (h:a∣b):a≤b:=Int.le_of_dvd hb h
theorem ZlK (m0:0 < m) {p' : List (List Int)} {M:Vc→Prop} (h:Lead m W p M) (h' : Lead m W p' M) {j:Nat} (hj:j < W):dv m p j=dv m p' j:=by
 have key:∀{p p' : List (List Int)},Lead m W p M→Lead m W p' M→dv m p j∣dv m p' j:=fun {p p'} h h' => by
  by_cases hr:row p' (j:Int)=[]
  ·
   rw[show dv m p' j=m from if_pos hr];exact(dv_bd m0 h.tab hj).2.2
  ·
   rw[show dv m p' j=rd (row p' (j:Int)) (j:Int)from if_neg hr]
   have hp:=h'.tab.prow hj hr
   exact h.lead _ (h'.own j hj hr) j hj fun i hi=>by rw[show V (row p' (j:Int)) i=0 from hp.zero i hi];exact Int.dvd_zero m
 have a:=ZjD (dv_bd m0 h.tab hj).1 (dv_bd m0 h'.tab hj).1 (key h h')
 have b:=ZjD (dv_bd m0 h'.tab hj).1 (dv_bd m0 h.tab hj).1 (key h' h)
 omega
structure Least (m:Int) (W:Nat) (p:List (List Int)) (M:Vc→Prop) (x y:List Int):Prop where
 len:y.length=W
 ent:AllIn m y
 dif:M fun i=>rd x (i:Int) - rd y (i:Int)
 lt:∀j:Nat,j < W→rd y (j:Int) < dv m p j
theorem Least.same (m0:0 < m) {p' : List (List Int)} {M:Vc→Prop} (h:Lead m W p M) (h' : Lead m W p' M) {x y y' : List Int} (hy:Least m W p M x y) (hy' : Least m W p' M x y'):y=y' := by
 have hd:M fun i=>rd y (i:Int) - rd y' (i:Int):=by
  refine h.sub.alike _ _ (h.sub.lin _ _ hy'.dif hy.dif (-1)) fun i _=>Zas ?_
  omega
 have hall:∀n,n≤W→∀i:Nat,i < n→rd y (i:Int)=rd y' (i:Int):=by
  intro n
  induction n with
  | zero=>intro _ i hi;omega
  | succ n ih =>
   intro hn i hi
   have ih:=ih (by omega)
   by_cases e:i=n
   ·
    subst e
    have hl:=h.lead _ hd i (by omega) fun k hk=>by rw[ih k hk];exact⟨0,by omega⟩
    have a1:=hy.lt i (by omega)
    have a2:=hy'.lt i (by omega)
    rw[←ZlK m0 h h' (show i < W by omega)]at a2
    obtain⟨b1,_⟩:=hy.ent i (by omega) (by rw[hy.len];omega)
    obtain⟨b2,_⟩:=hy'.ent i (by omega) (by rw[hy'.len];omega)
    have hd0:=(dv_bd m0 h.tab (show i < W by omega)).1
    obtain⟨q,hq⟩:=hl
    have q0:q=0:=by
     rcases Int.lt_trichotomy q 0 with h|h|h
     ·
      have:=Int.mul_le_mul_of_nonneg_left (show q ≤ -1 by omega) (Int.le_of_lt hd0)
      omega
     ·
      exact h
     ·
      have:=Int.mul_le_mul_of_nonneg_left (show 1≤q by omega) (Int.le_of_lt hd0)
      omega
    rw[q0]at hq
    omega
   ·
    exact ih i (by omega)
 refine Zh8 (by rw[hy.len,hy'.len]) fun i i0 i1 => ?_
 obtain⟨n,rfl⟩:=Int.eq_ofNat_of_zero_le i0
 exact hall W (Nat.le_refl _) n (by have:=hy.len;omega)
end
end Go.Proofs.Ytdamfbighdkcbaa.V
namespace Go.Proofs.Ytdamfbighdkcbaa.V
open Go.RowKit Go.Proofs.Ytdamfbighdkcbaa.D Go.Proofs.Ytdamfbighdkcbaa.P
theorem ModW {a m:Int} (h0 : -4000000000000000000≤a) (h1:a≤4000000000000000000) (m0:0 < m) (m1:m≤1000000):Zam.f a m=some (a%m):=by
 rw[Zam.f_eq]
 have t0:=Int.tmod_lt_of_pos a m0
 have t1 : -m < Int.tmod a m:=Int.lt_tmod_of_pos a m0
 have hq:=Int.mul_tdiv_add_tmod a m
 have h5:(m*a.tdiv m+a.tmod m)%m=a.tmod m%m:=by rw[Int.add_comm,Int.add_mul_emod_self_left]
 rw[hq]at h5
 rw[w64 (by omega) (by omega),Int.tmod_eq_emod_of_nonneg (show 0≤Int.tmod a m+m by omega),Int.add_emod_right,←h5]
 ((with_reducible repeat (first|refine Zi (by first|assumption|omega|rfl|exact B_pos (by omega)) ?_|refine Zh (by first|assumption|omega|decide|exact B_not (by omega)) ?_|refine Zf (by first|assumption) ?_|dsimp only));first|done|(with_reducible rfl)|simp (disch:=omega) only[w64]|(show False;done))
def mix (m x:Int) (a:List Int) (y:Int) (b:List Int):List Int:=(List.range a.length).map fun(i:Nat)=>(x*rd a (i:Int)+y*rd b (i:Int))%m
theorem ZaS (m x:Int) (a:List Int) (y:Int) (b:List Int):(mix m x a y b).length=a.length:=by simp[mix]
theorem ZbE {m x:Int} {a:List Int} {y:Int} {b:List Int} {i:Nat} (h:i < a.length):rd (mix m x a y b) (i:Int)=(x*rd a (i:Int)+y*rd b (i:Int))%m:=by
 rw[Za4 (by rw[ZaS];exact h)]
 simp[mix]
theorem ZbR {m x:Int} {a:List Int} {y:Int} {b:List Int} (m0:0 < m):AllIn m (mix m x a y b):=by
 refine Zbq fun z hz => ?_
 obtain⟨i,_,rfl⟩:=List.mem_map.1 hz
 exact⟨Int.emod_nonneg _ (by omega),Int.emod_lt_of_pos _ m0⟩
theorem Zbf {m x:Int} {a:List Int} {y:Int} {b:List Int} {i:Nat} (h:i < a.length):m∣x*rd a (i:Int)+y*rd b (i:Int) - rd (mix m x a y b) (i:Int):=by
 rw[ZbE h]
 exact Int.dvd_self_sub_emod
theorem ZcR {x a B m:Int} (x0 : -B≤x) (x1:x≤B) (a0:0≤a) (a1:a < m) (m1:m≤12) (B0:0≤B) : -(12*B)≤x*a∧x*a≤12*B:=by
 have h1:x*a≤B*a:=Int.mul_le_mul_of_nonneg_right x1 a0
 have h2:(-B)*a≤x*a:=Int.mul_le_mul_of_nonneg_right x0 a0
 have h3:B*a≤B*12:=Int.mul_le_mul_of_nonneg_left (by omega) B0
 rw[Int.neg_mul]at h2
 constructor <;> omega
theorem Ziv {xs ys:List Int} {j:Nat} (hl:ys.length=xs.length) (hj:j < xs.length) {z:Int} (hz:z=rd ys (j:Int)):(ys.take j++xs.drop j).set j z=ys.take (j+1)++xs.drop (j+1):=by
 subst hz
 rw[Za4 (by omega)]
 apply List.ext_getElem
 ·
  simp;omega
 ·
  intro i h1 h2
  rw[List.getElem_set]
  by_cases e:j=i
  ·
   subst e
   rw[if_pos rfl,List.getElem_append_left (by simp;omega)]
   simp
  ·
   rw[if_neg e]
   by_cases e2:i < j
   ·
    rw[List.getElem_append_left (by simp;omega),List.getElem_append_left (by simp;omega)]
    simp
   ·
    have:(List.take j ys).length=j:=by simp;omega
    have:(List.take (j+1) ys).length=j+1:=by simp;omega
    rw[List.getElem_append_right (by omega),List.getElem_append_right (by omega)]
    simp only[List.getElem_drop]
    congr 1
    omega
theorem combined {m:Int} (m2:2≤m) (m12:m≤12) {p:List (List Int)} {x y:Int} {a b:List Int} (ha:AllIn m a) (hb:AllIn m b) (hl:b.length=a.length) (hW:a.length≤1000000) (x0 : -100000000000000≤x) (x1:x≤100000000000000) (y0 : -100000000000000≤y) (y1:y≤100000000000000) :
  Zq.f m p x a y b=some (mix m x a y b):=by
 have hz:(List.replicate a.length (0:Int)).length=a.length:=List.length_replicate
 have hml:=ZaS m x a y b
 have loop:=up a.length (fun j=>Zq.l0 x y b a (a.length:Int) (j:Int) m p ((mix m x a y b).take j++(List.replicate a.length (0:Int)).drop j)) (fun j hj=>by
  obtain⟨a0,a1⟩:=ha j (by omega) (by omega)
  obtain⟨b0,b1⟩:=hb j (by omega) (by omega)
  have p1:=ZcR x0 x1 a0 a1 m12 (by omega)
  have p2:=ZcR y0 y1 b0 b1 m12 (by omega)
  have t0:=Int.tmod_lt_of_pos (x*rd a (j:Int)+y*rd b (j:Int)) (show 0 < m by omega)
  have t1 : -m < Int.tmod (x*rd a (j:Int)+y*rd b (j:Int)) m:=Int.lt_tmod_of_pos _ (by omega)
  have hq:=Int.mul_tdiv_add_tmod (x*rd a (j:Int)+y*rd b (j:Int)) m
  have h5:(m*(x*rd a (j:Int)+y*rd b (j:Int)).tdiv m+(x*rd a (j:Int)+y*rd b (j:Int)).tmod m)%m=(x*rd a (j:Int)+y*rd b (j:Int)).tmod m%m:=by rw[Int.add_comm,Int.add_mul_emod_self_left]
  rw[hq]at h5
  have hv:(wrapI ((wrapI (wrapI (x*rd a (j:Int))+wrapI (y*rd b (j:Int)))).tmod m+m)).tmod m=rd (mix m x a y b) (j:Int):=by
   rw[w64 (x:=x*rd a (j:Int)) (by omega) (by omega),w64 (x:=y*rd b (j:Int)) (by omega) (by omega),w64 (x:=x*rd a (j:Int)+y*rd b (j:Int)) (by omega) (by omega),w64 (by omega) (by omega),ZbE hj,Int.tmod_eq_emod_of_nonneg (by omega),Int.add_emod_right,←h5]
  have hs:=Ziv (xs:=List.replicate a.length (0:Int)) (ys:=mix m x a y b) (by omega) (by omega) (j:=j) hv
  have hll:(((mix m x a y b).take j++(List.replicate a.length (0:Int)).drop j).length:Int)=a.length:=by simp;omega
  rw[Zq.l0_eq,wn (j:=j) (by omega),Int.toNat_natCast,hs,hll]
  ((with_reducible repeat (first|refine Zi (by first|assumption|omega|rfl|exact B_pos (by omega)) ?_|refine Zh (by first|assumption|omega|decide|exact B_not (by omega)) ?_|refine Zf (by first|assumption) ?_|dsimp only));first|done|(with_reducible rfl)|simp (disch:=omega) only[w64]|(show False;done)))
 rw[Zq.f_eq,Int.toNat_natCast]
 rw[List.take_zero,List.nil_append,List.drop_zero,Int.natCast_zero]at loop
 rw[loop,Zq.l0_eq,show(mix m x a y b).take a.length=mix m x a y b from List.take_of_length_le (by omega),List.drop_of_length_le (by simp),List.append_nil]
 ((with_reducible repeat (first|refine Zi (by first|assumption|omega|rfl|exact B_pos (by omega)) ?_|refine Zh (by first|assumption|omega|decide|exact B_not (by omega)) ?_|refine Zf (by first|assumption) ?_|dsimp only));first|done|(with_reducible rfl)|simp (disch:=omega) only[w64]|(show False;done))
theorem Mix_ {m:Int} (m2:2≤m) (m12:m≤12) {x y:Int} {a b:List Int} (ha:AllIn m a) (hb:AllIn m b) (hl:b.length=a.length) (hW:a.length≤1000000) (x0 : -100000000000000≤x) (x1:x≤100000000000000) (y0 : -100000000000000≤y) (y1:y≤100000000000000) :
  ZA.f a b x y m=some (mix m x a y b):=by
 have hz:(List.replicate a.length (0:Int)).length=a.length:=List.length_replicate
 have hml:=ZaS m x a y b
 have loop:=up a.length (fun j=>ZA.l0 a b x y m (j:Int) ((mix m x a y b).take j++(List.replicate a.length (0:Int)).drop j)) (fun j hj=>by
  obtain⟨a0,a1⟩:=ha j (by omega) (by omega)
  obtain⟨b0,b1⟩:=hb j (by omega) (by omega)
  have p1:=ZcR x0 x1 a0 a1 m12 (by omega)
  have p2:=ZcR y0 y1 b0 b1 m12 (by omega)
  have hM:=ModW (a:=x*rd a (j:Int)+y*rd b (j:Int)) (m:=m) (by omega) (by omega) (by omega) (by omega)
  have hs:=Ziv (xs:=List.replicate a.length (0:Int)) (ys:=mix m x a y b) (by omega) (by omega) (j:=j) (ZbE hj).symm
  have hll:(((mix m x a y b).take j++(List.replicate a.length (0:Int)).drop j).length:Int)=a.length:=by simp;omega
  rw[ZA.l0_eq,wn (j:=j) (by omega),w64 (x:=x*rd a (j:Int)) (by omega) (by omega),w64 (x:=y*rd b (j:Int)) (by omega) (by omega),w64 (by omega) (by omega),hM,Option.bind_some,Int.toNat_natCast,hs,hll]
  ((with_reducible repeat (first|refine Zi (by first|assumption|omega|rfl|exact B_pos (by omega)) ?_|refine Zh (by first|assumption|omega|decide|exact B_not (by omega)) ?_|refine Zf (by first|assumption) ?_|dsimp only));first|done|(with_reducible rfl)|simp (disch:=omega) only[w64]|(show False;done)))
 rw[ZA.f_eq,Int.toNat_natCast]
 rw[List.take_zero,List.nil_append,List.drop_zero,Int.natCast_zero]at loop
 rw[loop,ZA.l0_eq,show(mix m x a y b).take a.length=mix m x a y b from List.take_of_length_le (by omega),List.drop_of_length_le (by simp),List.append_nil]
 ((with_reducible repeat (first|refine Zi (by first|assumption|omega|rfl|exact B_pos (by omega)) ?_|refine Zh (by first|assumption|omega|decide|exact B_not (by omega)) ?_|refine Zf (by first|assumption) ?_|dsimp only));first|done|(with_reducible rfl)|simp (disch:=omega) only[w64]|(show False;done))
end Go.Proofs.Ytdamfbighdkcbaa.V
namespace Go.Proofs.Ytdamfbighdkcbaa.V
open Go.RowKit Go.Proofs.Ytdamfbighdkcbaa.D Go.Proofs.Ytdamfbighdkcbaa.P
theorem bez (a b:Nat):∃s t:Int,s*a+t*b=((Nat.gcd a b:Nat):Int):=by
 induction a,b using Nat.gcd.induction with
 | H0 n=>exact⟨0,1,by simp⟩
 | H1 a b ha ih =>
  obtain⟨s,t,h⟩:=ih
  refine⟨t - s*((b / a:Nat):Int),s,?_⟩
  rw[Nat.gcd_rec a b,←h]
  have h1:(b:Int)=(a:Int)*((b / a:Nat):Int)+((b%a:Nat):Int):=by exact_mod_cast (Nat.div_add_mod b a).symm
  rw[Int.sub_mul,Int.mul_assoc,Int.mul_comm ((b / a:Nat):Int) (a:Int)]
  have h2:s*(b:Int)=s*((a:Int)*((b / a:Nat):Int))+s*((b%a:Nat):Int):=by rw[←Int.mul_add,←h1]
  omega
theorem ZlF {m a b:Int} (m0:0 < m) (a0:0≤a) (b0:0≤b):∃x y:Int,(0≤x∧x < m)∧(0≤y∧y < m)∧m∣x*a+y*b - ((Int.gcd ((Int.gcd a b:Nat):Int) m:Nat):Int):=by
 obtain⟨A,rfl⟩:=Int.eq_ofNat_of_zero_le a0
 obtain⟨C,rfl⟩:=Int.eq_ofNat_of_zero_le b0
 obtain⟨M,rfl⟩:=Int.eq_ofNat_of_zero_le (Int.le_of_lt m0)
 obtain⟨s,t,h1⟩:=bez A C
 obtain⟨s', t', h2⟩:=bez (Nat.gcd A C) M
 refine⟨(s' * s)%M,(s' * t)%M,⟨Int.emod_nonneg _ (by omega),Int.emod_lt_of_pos _ m0⟩,⟨Int.emod_nonneg _ (by omega),Int.emod_lt_of_pos _ m0⟩,?_⟩
 show(M:Int)∣(s' * s)%M*A+(s' * t)%M*C - ((Nat.gcd (Nat.gcd A C) M:Nat):Int)
 have e1:(s' * s)%(M:Int)=s' * s - M*(s' * s / M):=by have:=Int.mul_ediv_add_emod (s' * s) M;omega
 have e2:(s' * t)%(M:Int)=s' * t - M*(s' * t / M):=by have:=Int.mul_ediv_add_emod (s' * t) M;omega
 rw[e1,e2]
 refine⟨-(s' * s / M*A) - (s' * t / M*C) - t', ?_⟩
 have h3:s' * (s*(A:Int)+t*(C:Int))=s' * ((Nat.gcd A C:Nat):Int):=by rw[h1]
 rw[Int.mul_add,←Int.mul_assoc,←Int.mul_assoc]at h3
 rw[Int.sub_mul,Int.sub_mul,Int.mul_sub,Int.mul_sub,Int.mul_neg,Int.mul_assoc (M:Int),Int.mul_assoc (M:Int),Int.mul_comm (M:Int) t']
 omega
theorem ZbT {a m:Int}:Int.tmod a m=0↔m∣a:=⟨Int.dvd_of_tmod_eq_zero,Int.tmod_eq_zero_of_dvd⟩
theorem bezout {m:Int} (m2:2≤m) (m12:m≤12) {p:List (List Int)} {a b:Int} (a0:0≤a) (a1:a≤12) (b0:0≤b) (b1:b≤12) :
  ∃x y:Int,Zn.f m p a b=some (x,y,((Int.gcd ((Int.gcd a b:Nat):Int) m:Nat):Int))∧(0≤x∧x < m)∧(0≤y∧y < m)∧m∣x*a+y*b - ((Int.gcd ((Int.gcd a b:Nat):Int) m:Nat):Int):=by
 have hg1:=gcd_ a0 b0
 have hg2:=gcd_ (a:=((Int.gcd a b:Nat):Int)) (b:=m) (by omega) (by omega)
 have hd:0≤((Int.gcd ((Int.gcd a b:Nat):Int) m:Nat):Int)∧((Int.gcd ((Int.gcd a b:Nat):Int) m:Nat):Int)≤m:=by
  constructor
  ·
   omega
  ·
   exact Int.le_of_dvd (by omega) (Int.gcd_dvd_right ..)
 obtain⟨x0,y0,hx0,hy0,h0⟩:=ZlF (m:=m) (by omega) a0 b0
 rw[Zn.f_eq,hg1,Option.bind_some,hg2,Option.bind_some]
 generalize ((Int.gcd ((Int.gcd a b:Nat):Int) m:Nat):Int)=d at hd h0 ⊢
 have inner:∀(n:Nat) (x y:Int),0≤x→x < m→0≤y→y+n=m→(∃y', (0≤y' ∧ y' < m)∧m∣x*a+y' * b - d∧Zn.l1 a b d x m x m y m p=some (x,y', d))∨((∀y', y≤y' → y' < m→¬ m∣x*a+y' * b - d)∧Zn.l1 a b d x m x m y m p=Zn.l0 a b d m (x+1) m p):=by
  intro n
  induction n with
  | zero =>
   intro x y hx hx' hy hn
   refine .inr ⟨fun y' h1 h2=>by omega,?_⟩
   rw[Zn.l1_eq,w64 (x:=x+1) (by omega) (by omega)]
   ((with_reducible repeat (first|refine Zi (by first|assumption|omega|rfl|exact B_pos (by omega)) ?_|refine Zh (by first|assumption|omega|decide|exact B_not (by omega)) ?_|refine Zf (by first|assumption) ?_|dsimp only));first|done|(with_reducible rfl)|simp (disch:=omega) only[w64]|(show False;done))
  | succ n ih =>
   intro x y hx hx' hy hn
   have p1:=ZcR (x:=x) (a:=a) (B:=12) (m:=13) (by omega) (by omega) a0 (by omega)
   have q1:0≤x*a:=Int.mul_nonneg hx a0
   have q2:x*a≤12*12:=Int.mul_le_mul (by omega) a1 a0 (by omega)
   have q3:0≤y*b:=Int.mul_nonneg hy b0
   have q4:y*b≤12*12:=Int.mul_le_mul (by omega) b1 b0 (by omega)
   have hv:wrapI (wrapI (wrapI (x*a)+wrapI (y*b)) - d)=x*a+y*b - d:=by
    rw[w64 (x:=x*a) (by omega) (by omega),w64 (x:=y*b) (by omega) (by omega),w64 (x:=x*a+y*b) (by omega) (by omega),w64 (by omega) (by omega)]
   by_cases h:m∣x*a+y*b - d
   ·
    refine .inl ⟨y,⟨hy,by omega⟩,h,?_⟩
    have ht:=ZbT.2 h
    rw[Zn.l1_eq,hv]
    ((with_reducible repeat (first|refine Zi (by first|assumption|omega|rfl|exact B_pos (by omega)) ?_|refine Zh (by first|assumption|omega|decide|exact B_not (by omega)) ?_|refine Zf (by first|assumption) ?_|dsimp only));first|done|(with_reducible rfl)|simp (disch:=omega) only[w64]|(show False;done))
   ·
    have ht:¬ Int.tmod (x*a+y*b - d) m=0:=fun k=>h (ZbT.1 k)
    have hl:Zn.l1 a b d x m x m y m p=Zn.l1 a b d x m x m (y+1) m p:=by
     rw[Zn.l1_eq,hv,w64 (x:=y+1) (by omega) (by omega)]
     ((with_reducible repeat (first|refine Zi (by first|assumption|omega|rfl|exact B_pos (by omega)) ?_|refine Zh (by first|assumption|omega|decide|exact B_not (by omega)) ?_|refine Zf (by first|assumption) ?_|dsimp only));first|done|(with_reducible rfl)|simp (disch:=omega) only[w64]|(show False;done))
    rcases ih x (y+1) hx hx' (by omega) (by omega)with ⟨y', h1,h2,h3⟩|⟨h1,h2⟩
    ·
     exact .inl ⟨y', h1,h2,hl.trans h3⟩
    ·
     refine .inr ⟨fun y' k1 k2 => ?_,hl.trans h2⟩
     by_cases e:y' = y
     ·
      rw[e];exact h
     ·
      exact h1 y' (by omega) k2
 have outer:∀(n:Nat) (x:Int),0≤x→x+n=m→x≤x0→∃x' y', Zn.l0 a b d m x m p=some (x', y', d)∧(0≤x' ∧ x' < m)∧(0≤y' ∧ y' < m)∧m∣x' * a+y' * b - d:=by
  intro n
  induction n with
  | zero=>intro x hx hn hx0';omega
  | succ n ih =>
   intro x hx hn hx0'
   have hl:Zn.l0 a b d m x m p=Zn.l1 a b d x m x m 0 m p:=by
    rw[Zn.l0_eq]
    ((with_reducible repeat (first|refine Zi (by first|assumption|omega|rfl|exact B_pos (by omega)) ?_|refine Zh (by first|assumption|omega|decide|exact B_not (by omega)) ?_|refine Zf (by first|assumption) ?_|dsimp only));first|done|(with_reducible rfl)|simp (disch:=omega) only[w64]|(show False;done))
   rw[hl]
   rcases inner m.toNat x 0 hx (by omega) (by omega) (by omega)with ⟨y', h1,h2,h3⟩|⟨h1,h2⟩
   ·
    exact⟨x,y', h3,⟨hx,by omega⟩,h1,h2⟩
   ·
    rw[h2]
    refine ih (x+1) (by omega) (by omega) ?_
    by_cases e:x=x0
    ·
     exact absurd (e ▸ h0) (h1 y0 hy0.1 hy0.2)
    ·
     omega
 exact outer m.toNat 0 (by omega) (by omega) hx0.1
theorem ZgX {a b:Int} (a0:0≤a) (a1:a≤12) (b0:0≤b) (b1:b≤12) :
  ∃s t:Int,ZH.f a b=some (((Int.gcd a b:Nat):Int),s,t)∧s*a+t*b=((Int.gcd a b:Nat):Int)∧(-100000000000000≤s∧s≤100000000000000)∧(-100000000000000≤t∧t≤100000000000000):=by
 have key:∀(k:Nat) (x y:Nat) (s t u v K:Int),x≤12→y≤12→y≤k→(-K≤s∧s≤K)→(-K≤t∧t≤K)→(-K≤u∧u≤K)→(-K≤v∧v≤K)→0≤K→K*13 ^ k≤100000000000000→s*a+t*b=x→u*a+v*b=y →
   ∃s' t' : Int,ZH.l0 (x:Int) (y:Int) s t u v=some (((Nat.gcd x y:Nat):Int),s', t')∧s' * a+t' * b=((Nat.gcd x y:Nat):Int)∧(-100000000000000≤s' ∧ s' ≤ 100000000000000)∧(-100000000000000≤t' ∧ t' ≤ 100000000000000):=by
  intro k
  induction k with
  | zero =>
   intro x y s t u v K hx hy12 hy hs ht hu hv hK hKk h1 h2
   obtain rfl:y=0:=by omega
   rw[Int.pow_zero,Int.mul_one]at hKk
   refine⟨s,t,?_,by rw[Nat.gcd_zero_right];exact h1,by omega,by omega⟩
   rw[ZH.l0_eq,Nat.gcd_zero_right]
   ((with_reducible repeat (first|refine Zi (by first|assumption|omega|rfl|exact B_pos (by omega)) ?_|refine Zh (by first|assumption|omega|decide|exact B_not (by omega)) ?_|refine Zf (by first|assumption) ?_|dsimp only));first|done|(with_reducible rfl)|simp (disch:=omega) only[w64]|(show False;done))
  | succ k ih =>
   intro x y s t u v K hx hy12 hy hs ht hu hv hK hKk h1 h2
   have hpow:(1:Int)≤13 ^ k:=Int.pow_pos (by decide)
   rw[Int.pow_succ,Int.mul_comm (13 ^ k) 13,←Int.mul_assoc]at hKk
   have hK1:K*13≤K*13*13 ^ k:=by
    have:=Int.mul_le_mul_of_nonneg_left hpow (show 0≤K*13 by omega)
    rwa[Int.mul_one]at this
   by_cases e:y=0
   ·
    subst e
    refine⟨s,t,?_,by rw[Nat.gcd_zero_right];exact h1,by omega,by omega⟩
    rw[ZH.l0_eq,Nat.gcd_zero_right]
    ((with_reducible repeat (first|refine Zi (by first|assumption|omega|rfl|exact B_pos (by omega)) ?_|refine Zh (by first|assumption|omega|decide|exact B_not (by omega)) ?_|refine Zf (by first|assumption) ?_|dsimp only));first|done|(with_reducible rfl)|simp (disch:=omega) only[w64]|(show False;done))
   ·
    have hq:(x:Int).tdiv (y:Int)=((x / y:Nat):Int):=by rw[Int.tdiv_eq_ediv_of_nonneg (by omega)];rfl
    have hq12:x / y≤12:=Nat.le_trans (Nat.div_le_self _ _) hx
    have hm:=Nat.div_add_mod x y
    have hlt:=Nat.mod_lt x (show 0 < y by omega)
    generalize x / y=Q at hq hq12 hm
    have hqy:(Q:Int)*(y:Int)=(x:Int) - ((x%y:Nat):Int):=by
     have:(y:Int)*(Q:Int)+((x%y:Nat):Int)=(x:Int):=by exact_mod_cast hm
     rw[Int.mul_comm];omega
    have bd:∀z:Int,(-K≤z∧z≤K) → -(12*K)≤(Q:Int)*z∧(Q:Int)*z≤12*K:=fun z hz=>by
     have h1:(Q:Int)*z≤(Q:Int)*K:=Int.mul_le_mul_of_nonneg_left hz.2 (by omega)
     have h2:(Q:Int)*(-K)≤(Q:Int)*z:=Int.mul_le_mul_of_nonneg_left hz.1 (by omega)
     have h3:(Q:Int)*K≤12*K:=Int.mul_le_mul_of_nonneg_right (by omega) hK
     rw[Int.mul_neg]at h2
     omega
    have bu:=bd u hu
    have bv:=bd v hv
    have hmod:((x%y:Nat):Int)=(x:Int) - (Q:Int)*y:=by omega
    obtain⟨s', t', k1,k2,k3,k4⟩:=ih y (x%y) u v (s - (Q:Int)*u) (t - (Q:Int)*v) (K*13) (by omega) (by omega) (by omega) ⟨by omega,by omega⟩ ⟨by omega,by omega⟩ ⟨by omega,by omega⟩ ⟨by omega,by omega⟩ (by omega) hKk h2 (by
     rw[Int.sub_mul,Int.sub_mul,hmod,←h1,←h2,Int.mul_add,Int.mul_assoc,Int.mul_assoc]
     omega)
    have hgc:Nat.gcd y (x%y)=Nat.gcd x y:=by rw[Nat.gcd_comm x y,Nat.gcd_rec y x,Nat.gcd_comm]
    rw[hgc]at k1 k2
    refine⟨s', t', ?_,k2,k3,k4⟩
    have w1:wrapI (Q:Int)=(Q:Int):=w64 (by omega) (by omega)
    rw[ZH.l0_eq,hq,w1,hqy,w64 (x:=(x:Int) - ((x%y:Nat):Int)) (by omega) (by omega),w64 (x:=(x:Int) - ((x:Int) - ((x%y:Nat):Int))) (by omega) (by omega),w64 (x:=(Q:Int)*u) (by omega) (by omega),w64 (x:=(Q:Int)*v) (by omega) (by omega),w64 (x:=s - (Q:Int)*u) (by omega) (by omega),w64 (x:=t - (Q:Int)*v) (by omega) (by omega),show(x:Int) - ((x:Int) - ((x%y:Nat):Int))=((x%y:Nat):Int)by omega]
    (with_reducible repeat (first|refine Zi (by first|assumption|omega|rfl|exact B_pos (by omega)) ?_|refine Zh (by first|assumption|omega|decide|exact B_not (by omega)) ?_|refine Zf (by first|assumption) ?_|dsimp only))
    exact k1
 obtain⟨A,rfl⟩:=Int.eq_ofNat_of_zero_le a0
 obtain⟨C,rfl⟩:=Int.eq_ofNat_of_zero_le b0
 rw[ZH.f_eq]
 exact key 12 A C 1 0 0 1 1 (by omega) (by omega) (by omega) (by omega) (by omega) (by omega) (by omega) (by omega) (by decide) (by omega) (by omega)
theorem Zld:∀m:Nat,m≤12→∀x:Nat,x < m→0 < x→((List.range 13).any fun u=>decide (1≤u) && decide (Nat.gcd u m=1) && decide (x*u%m=Nat.gcd x m%m))=true:=by decide
theorem ZlR:∀m:Nat,m≤12→∀u:Nat,u≤12→2≤m→Nat.gcd u m=1→((List.range 13).any fun v=>decide (u*v%m=1))=true:=by decide
theorem ZiE {m u:Int} (m2:2≤m) (m12:m≤12) (u0:0≤u) (u1:u≤12) (h:Int.gcd u m=1):∃v:Int,m∣u*v - 1:=by
 obtain⟨M,rfl⟩:=Int.eq_ofNat_of_zero_le (show 0≤m by omega)
 obtain⟨U,rfl⟩:=Int.eq_ofNat_of_zero_le u0
 have:=ZlR M (by omega) U (by omega) (by omega) (by simpa [Int.gcd] using h)
 obtain⟨v,_,hv⟩:=List.any_eq_true.1 this
 have hv:=of_decide_eq_true hv
 refine⟨(v:Int),((U*v / M:Nat):Int),?_⟩
 have h1:=Nat.div_add_mod (U*v) M
 rw[hv]at h1
 have:(M:Int)*((U*v / M:Nat):Int)+1=(U:Int)*(v:Int):=by exact_mod_cast h1
 omega
theorem Unit_ {m:Int} (m2:2≤m) (m12:m≤12) {own:List Int} (ho:AllIn m own) (hW:own.length≤1000000) {j:Nat} (hj:j < own.length) (hx:¬ rd own (j:Int)=0) :
  ∃u:Int,(1≤u∧u≤12)∧Int.gcd u m=1∧m∣u*rd own (j:Int) - ((Int.gcd (rd own (j:Int)) m:Nat):Int)∧ZX.f own (j:Int) m=some (mix m u own 0 own):=by
 obtain⟨x0,x1⟩:=ho j (by omega) (by omega)
 have hG:=Gcd_ (a:=rd own (j:Int)) (b:=m) (by omega) (by omega) (by omega) (by omega)
 rw[ZX.f_eq]
 have hex:∃u:Nat,1≤u∧u≤12∧Int.gcd (u:Int) m=1∧(rd own (j:Int)*u)%m=((Int.gcd (rd own (j:Int)) m:Nat):Int)%m:=by
  obtain⟨X,hX⟩:=Int.eq_ofNat_of_zero_le x0
  obtain⟨M,rfl⟩:=Int.eq_ofNat_of_zero_le (show 0≤m by omega)
  have:=Zld M (by omega) X (by omega) (by omega)
  obtain⟨u,hu1,hu2⟩:=List.any_eq_true.1 this
  have hu1:=List.mem_range.1 hu1
  simp only[Bool.and_eq_true,decide_eq_true_eq]at hu2
  refine⟨u,hu2.1.1,by omega,by simpa [Int.gcd] using hu2.1.2,?_⟩
  rw[hX]
  have h2:=hu2.2
  have e:Int.gcd (X:Int) (M:Int)=Nat.gcd X M:=by simp[Int.gcd]
  rw[e]
  exact_mod_cast h2
 obtain⟨u0,u1,u2,u3,u4⟩:=hex
 have hd:0 < ((Int.gcd (rd own (j:Int)) m:Nat):Int)∧((Int.gcd (rd own (j:Int)) m:Nat):Int) < m:=by
  have h1:((Int.gcd (rd own (j:Int)) m:Nat):Int)≤rd own (j:Int):=Int.le_of_dvd (by omega) (Int.gcd_dvd_left ..)
  have h2:0 < Int.gcd (rd own (j:Int)) m:=Int.gcd_pos_of_ne_zero_left _ hx
  omega
 generalize ((Int.gcd (rd own (j:Int)) m:Nat):Int)=d at hd u4 hG ⊢
 have hdm:d.tmod m=d:=by rw[Int.tmod_eq_emod_of_nonneg (by omega),Int.emod_eq_of_lt (by omega) (by omega)]
 rw[Int.emod_eq_of_lt (a:=d) (by omega) (by omega)]at u4
 have loop:∀(n u:Nat),1≤u→u+n=u0→∃u' : Int,(1≤u' ∧ u' ≤ 12)∧Int.gcd u' m=1∧m∣u' * rd own (j:Int) - d∧ZX.l0 own (j:Int) m d (u:Int)=some (mix m u' own 0 own):=by
  intro n
  induction n with
  | zero =>
   intro u hu hn
   obtain rfl:u=u0:=by omega
   have hg:=Gcd_ (a:=(u:Int)) (b:=m) (by omega) (by omega) (by omega) (by omega)
   rw[u3]at hg
   have hmix:=Mix_ m2 m12 (x:=(u:Int)) (y:=0) ho ho rfl hW (by omega) (by omega) (by omega) (by omega)
   have p1:=ZcR (x:=(u:Int)) (a:=rd own (j:Int)) (B:=12) (by omega) (by omega) x0 x1 m12 (by omega)
   have p2:0≤(u:Int)*rd own (j:Int):=Int.mul_nonneg (by omega) x0
   have e1:wrapI (rd own (j:Int)*(u:Int))=(u:Int)*rd own (j:Int):=by rw[Int.mul_comm,w64 (by omega) (by omega)]
   have e2:((u:Int)*rd own (j:Int)).tmod m=d.tmod m:=by rw[hdm,Int.tmod_eq_emod_of_nonneg p2,Int.mul_comm,u4]
   refine⟨(u:Int),by omega,u3,?_,?_⟩
   ·
    rw[←u4,Int.mul_comm];exact Int.dvd_self_sub_emod
   ·
    rw[ZX.l0_eq,e1]
    ((with_reducible repeat (first|refine Zi (by first|assumption|omega|rfl|exact B_pos (by omega)) ?_|refine Zh (by first|assumption|omega|decide|exact B_not (by omega)) ?_|refine Zf (by first|assumption) ?_|dsimp only));first|done|(with_reducible rfl)|simp (disch:=omega) only[w64]|(show False;done))
  | succ n ih =>
   intro u hu hn
   have hg:=Gcd_ (a:=(u:Int)) (b:=m) (by omega) (by omega) (by omega) (by omega)
   have p1:=ZcR (x:=(u:Int)) (a:=rd own (j:Int)) (B:=12) (by omega) (by omega) x0 x1 m12 (by omega)
   have p2:0≤(u:Int)*rd own (j:Int):=Int.mul_nonneg (by omega) x0
   have e1:wrapI (rd own (j:Int)*(u:Int))=(u:Int)*rd own (j:Int):=by rw[Int.mul_comm,w64 (by omega) (by omega)]
   by_cases h1:Int.gcd (u:Int) m=1
   ·
    rw[h1]at hg
    by_cases h2:((u:Int)*rd own (j:Int)).tmod m=d.tmod m
    ·
     have hmix:=Mix_ m2 m12 (x:=(u:Int)) (y:=0) ho ho rfl hW (by omega) (by omega) (by omega) (by omega)
     refine⟨(u:Int),by omega,h1,?_,?_⟩
     ·
      rw[hdm,Int.tmod_eq_emod_of_nonneg p2]at h2
      rw[←h2];exact Int.dvd_self_sub_emod
     ·
      rw[ZX.l0_eq,e1]
      ((with_reducible repeat (first|refine Zi (by first|assumption|omega|rfl|exact B_pos (by omega)) ?_|refine Zh (by first|assumption|omega|decide|exact B_not (by omega)) ?_|refine Zf (by first|assumption) ?_|dsimp only));first|done|(with_reducible rfl)|simp (disch:=omega) only[w64]|(show False;done))
    ·
     obtain⟨u', k1,k2,k3,k4⟩:=ih (u+1) (by omega) (by omega)
     refine⟨u', k1,k2,k3,?_⟩
     rw[ZX.l0_eq,e1,wn (j:=u) (by omega)]
     (with_reducible repeat (first|refine Zi (by first|assumption|omega|rfl|exact B_pos (by omega)) ?_|refine Zh (by first|assumption|omega|decide|exact B_not (by omega)) ?_|refine Zf (by first|assumption) ?_|dsimp only))
     exact k4
   ·
    have h1' : ¬ ((Int.gcd (u:Int) m:Nat):Int)=1:=by omega
    obtain⟨u', k1,k2,k3,k4⟩:=ih (u+1) (by omega) (by omega)
    refine⟨u', k1,k2,k3,?_⟩
    rw[ZX.l0_eq,wn (j:=u) (by omega)]
    (with_reducible repeat (first|refine Zi (by first|assumption|omega|rfl|exact B_pos (by omega)) ?_|refine Zh (by first|assumption|omega|decide|exact B_not (by omega)) ?_|refine Zf (by first|assumption) ?_|dsimp only))
    exact k4
 obtain⟨u', k1,k2,k3,k4⟩:=loop (u0 - 1) 1 (by omega) (by omega)
 refine⟨u', k1,k2,k3,?_⟩
 (with_reducible repeat (first|refine Zi (by first|assumption|omega|rfl|exact B_pos (by omega)) ?_|refine Zh (by first|assumption|omega|decide|exact B_not (by omega)) ?_|refine Zf (by first|assumption) ?_|dsimp only))
 exact k4
end Go.Proofs.Ytdamfbighdkcbaa.V
namespace Go.Proofs.Ytdamfbighdkcbaa.V
open Go.RowKit Go.Proofs.Ytdamfbighdkcbaa.D
theorem ZaN {p:List (List Int)} {j:Nat} {n:List Int} (h:j < p.length):row (p.set j n) (j:Int)=n:=by
 rw[Za0 (by rw[List.length_set];exact h)]
 simp
theorem ZaT {p:List (List Int)} {i j:Nat} {n:List Int} (h:i≠j):row (p.set j n) (i:Int)=row p (i:Int):=by
 simp only[row,Int.toNat_natCast,List.getD_eq_getElem?_getD,List.getElem?_set,if_neg (show ¬ j=i from fun e=>h e.symm)]
def Zb (k:Nat) (s:List Int):Prop:=∀i:Nat,i < k→rd s (i:Int)=0
section
variable {m:Int} {W:Nat} {p p' st st' : List (List Int)} {M:Vc→Prop}
theorem PTab.set (h:PTab m W p) {j:Nat} {n:List Int} (hj:j < W) (hn:PRow m W j n):PTab m W (p.set j n) where
 len:=by rw[List.length_set];exact h.len
 rws:=fun i hi=>by
  by_cases e:i=j
  ·
   subst e;rw[ZaN (by rw[h.len];exact hj)];exact .inr hn
  ·
   rw[ZaT e];exact h.rws i hi
theorem PRow.ne {j:Nat} {n:List Int} (h:PRow m W j n):n≠[]:=fun e=>by
 have:=h.pos
 rw[e]at this
 simp[rd]at this
def dsum (m:Int) (p:List (List Int)):Nat→Int
 | 0=>0
 | k+1=>dsum m p k+dv m p k
theorem Zdj (hl:p.length=W) {j:Nat} {n:List Int} (hj:j < W) (hn:n≠[]):dv m (p.set j n) j=rd n (j:Int):=by
 unfold dv;rw[ZaN (by omega),if_neg hn]
theorem ZjC {i j:Nat} {n:List Int} (h:i≠j):dv m (p.set j n) i=dv m p i:=by
 unfold dv;rw[ZaT h]
theorem ZfA (hl:p.length=W) {j:Nat} {n:List Int} (hj:j < W):∀k,dsum m (p.set j n) k=dsum m p k+if j < k then dv m (p.set j n) j - dv m p j else 0:=by
 intro k
 induction k with
 | zero=>simp[dsum]
 | succ k ih =>
  rw[dsum,dsum,ih]
  by_cases e:j=k
  ·
   subst e
   rw[if_neg (Nat.lt_irrefl j),if_pos (Nat.lt_succ_self j)];omega
  ·
   rw[ZjC (fun q=>e q.symm)]
   by_cases h:j < k
   ·
    rw[if_pos h,if_pos (by omega)];omega
   ·
    rw[if_neg h,if_neg (by omega)];omega
theorem Zcn (m0:0 < m) (ht:PTab m W p):∀k,k≤W→0≤dsum m p k∧dsum m p k≤m*k:=by
 intro k
 induction k with
 | zero=>intro _;simp[dsum]
 | succ k ih =>
  intro hk
  obtain⟨a,b⟩:=ih (by omega)
  obtain⟨c,d,_⟩:=dv_bd m0 ht (show k < W by omega)
  rw[dsum,show m*((k+1:Nat):Int)=m*(k:Int)+m by rw[Int.natCast_add,Int.mul_add];simp]
  omega
structure Pst (m:Int) (W:Nat) (p st:List (List Int)) (M:Vc→Prop):Prop where
 inv:Inv m W p st
 spn:∀x,Sp m W (GT W p st 0) x↔M x
theorem Pst.step (h:Pst m W p st M) (ht:PTab m W p') (hs:∀s∈st', s.length=W∧AllIn m s)
  (ha:∀k g,GT W p st k g→Sp m W (GT W p' st' k) g) (hb:∀g,GT W p' st' 0 g→Sp m W (GT W p st 0) g)
  (hn:∀j:Nat,j < W→row p' (j:Int)≠[]→row p' (j:Int)≠row p (j:Int)→Sp m W (GT W p' st' (j+1)) (fun i=>m / rd (row p' (j:Int)) (j:Int)*rd (row p' (j:Int)) (i:Int))):Pst m W p' st' M where
 inv:=⟨ht,hs,fun j hj hr=>by
  by_cases e:row p' (j:Int)=row p (j:Int)
  ·
   have:=h.inv.how j hj (by rw[←e];exact hr)
   rw[e]
   exact this.mono (ha (j+1))
  ·
   exact hn j hj hr e⟩
 spn:=fun x=>by
  rw[←h.spn x]
  exact⟨fun hx=>hx.mono hb,fun hx=>hx.mono (ha 0)⟩
theorem GT.zb {k:Nat} {s:List Int} (hs:s∈st) (hz:Zb k s):GT W p st k (V s) := .inr ⟨s,hs,hz,rfl⟩
theorem Pst.drop {v:List Int} (h:Pst m W p (st++[v]) M) (hz:Zb W v):Pst m W p st M:=by
 refine h.step h.inv.tab (fun s hs=>h.inv.sts s (List.mem_append_left _ hs)) (fun k g hg => ?_) (fun g hg => .gen ?_) (fun j _ _ e=>absurd rfl e)
 ·
  rcases hg with hg|⟨s,hs,hk,rfl⟩
  ·
   exact .gen (.inl hg)
  ·
   rcases List.mem_append.1 hs with hs|hs
   ·
    exact .gen (.inr ⟨s,hs,hk,rfl⟩)
   ·
    rw[List.mem_singleton]at hs
    subst hs
    exact .alike .nil fun i hi=>by rw[show V s i=0 from hz i hi];exact⟨0,by omega⟩
 ·
  rcases hg with hg|⟨s,hs,hk,rfl⟩
  ·
   exact .inl hg
  ·
   exact .inr ⟨s,List.mem_append_left _ hs,hk,rfl⟩
theorem Pst.less {v w:List Int} {c:Int} (h:Pst m W p (st++[v]) M) {j:Nat} (hj:j < W) (hr:row p (j:Int)≠[]) (hvj:rd v (j:Int)≠0) (hw:w.length=W∧AllIn m w) (hz:Zb j w)
  (he:∀i:Nat,i < W→m∣1*rd v (i:Int)+(-c)*rd (row p (j:Int)) (i:Int) - rd w (i:Int)):Pst m W p (st++[w]) M:=by
 refine h.step h.inv.tab (fun s hs => ?_) (fun k g hg => ?_) (fun g hg => ?_) (fun j _ _ e=>absurd rfl e)
 ·
  rcases List.mem_append.1 hs with hs|hs
  ·
   exact h.inv.sts s (List.mem_append_left _ hs)
  ·
   rw[List.mem_singleton]at hs;subst hs;exact hw
 ·
  rcases hg with hg|⟨s,hs,hk,rfl⟩
  ·
   exact .gen (.inl hg)
  ·
   rcases List.mem_append.1 hs with hs|hs
   ·
    exact .gen (.inr ⟨s,List.mem_append_left _ hs,hk,rfl⟩)
   ·
    rw[List.mem_singleton]at hs
    subst hs
    have hkj:k≤j:=by
     by_cases q:k≤j
     ·
      exact q
     ·
      exact absurd (hk j (by omega)) hvj
    refine Sp.two (a:=1) (b:=c) (x:=V w) (y:=V (row p (j:Int))) (.gen (GT.zb (List.mem_append_right _ (List.mem_singleton.2 rfl)) fun i hi=>hz i (by omega))) (.gen (.inl ⟨j,hkj,hj,hr,rfl⟩)) fun i hi => ?_
    obtain⟨q,hq⟩:=he i hi
    refine⟨-q,?_⟩
    rw[Int.mul_neg,←hq,Int.neg_mul]
    show 1*rd w (i:Int)+c*rd (row p (j:Int)) (i:Int) - rd s (i:Int)=_
    omega
 ·
  rcases hg with hg|⟨s,hs,hk,rfl⟩
  ·
   exact .gen (.inl hg)
  ·
   rcases List.mem_append.1 hs with hs|hs
   ·
    exact .gen (.inr ⟨s,List.mem_append_left _ hs,hk,rfl⟩)
   ·
    rw[List.mem_singleton]at hs
    subst hs
    exact Sp.two (a:=1) (b := -c) (x:=V v) (y:=V (row p (j:Int))) (.gen (GT.zb (List.mem_append_right _ (List.mem_singleton.2 rfl)) fun i hi=>by omega)) (.gen (.inl ⟨j,Nat.zero_le _,hj,hr,rfl⟩)) fun i hi=>he i hi
theorem Pst.swap {v n:List Int} {ws:List (List Int)} (h:Pst m W p (st++[v]) M) {j:Nat} (hj:j < W) (hvj:rd v (j:Int)≠0) (hn:PRow m W j n) (hws:∀w∈ws,(w.length=W∧AllIn m w)∧Zb (j+1) w)
  (ho:row p (j:Int)≠[]→Sp m W (fun g=>g=V n∨∃w∈ws,g=V w) (V (row p (j:Int))))
  (hv:Sp m W (fun g=>g=V n∨∃w∈ws,g=V w) (V v))
  (hd:Sp m W (fun g=>∃w∈ws,g=V w) (fun i=>m / rd n (j:Int)*rd n (i:Int)))
  (hb:∀g,(g=V n∨∃w∈ws,g=V w)→Sp m W (fun g=>g=V v∨(row p (j:Int)≠[]∧g=V (row p (j:Int)))) g):Pst m W (p.set j n) (st++ws) M:=by
 have hpl:j < p.length:=by rw[h.inv.tab.len];exact hj
 have hsame:row (p.set j n) (j:Int)=n:=ZaN hpl
 have new:∀k,k≤j→∀g,(g=V n∨∃w∈ws,g=V w)→Sp m W (GT W (p.set j n) (st++ws) k) g:=fun k hk g hg=>by
  rcases hg with rfl|⟨w,hw,rfl⟩
  ·
   exact .gen (.inl ⟨j,hk,hj,by rw[hsame];exact hn.ne,by rw[hsame]⟩)
  ·
   exact .gen (GT.zb (List.mem_append_right _ hw) fun i hi=>(hws w hw).2 i (by omega))
 have old:∀g,(g=V v∨(row p (j:Int)≠[]∧g=V (row p (j:Int))))→Sp m W (GT W p (st++[v]) 0) g:=fun g hg=>by
  rcases hg with rfl|⟨hr,rfl⟩
  ·
   exact .gen (GT.zb (List.mem_append_right _ (List.mem_singleton.2 rfl)) fun i hi=>by omega)
  ·
   exact .gen (.inl ⟨j,Nat.zero_le _,hj,hr,rfl⟩)
 refine h.step (h.inv.tab.set hj hn) (fun s hs => ?_) (fun k g hg => ?_) (fun g hg => ?_) (fun i hi hr e => ?_)
 ·
  rcases List.mem_append.1 hs with hs|hs
  ·
   exact h.inv.sts s (List.mem_append_left _ hs)
  ·
   exact(hws s hs).1
 ·
  rcases hg with ⟨i,hk,hi,hr,rfl⟩|⟨s,hs,hk,rfl⟩
  ·
   by_cases e:i=j
   ·
    subst e
    exact(ho hr).mono (new k hk)
   ·
    exact .gen (.inl ⟨i,hk,hi,by rw[ZaT e];exact hr,by rw[ZaT e]⟩)
  ·
   rcases List.mem_append.1 hs with hs|hs
   ·
    exact .gen (.inr ⟨s,List.mem_append_left _ hs,hk,rfl⟩)
   ·
    rw[List.mem_singleton]at hs
    subst hs
    have hkj:k≤j:=by
     by_cases q:k≤j
     ·
      exact q
     ·
      exact absurd (hk j (by omega)) hvj
    exact hv.mono (new k hkj)
 ·
  rcases hg with ⟨i,hk,hi,hr,rfl⟩|⟨s,hs,hk,rfl⟩
  ·
   by_cases e:i=j
   ·
    subst e
    rw[hsame]
    exact(hb _ (.inl rfl)).mono old
   ·
    rw[ZaT e]at hr ⊢
    exact .gen (.inl ⟨i,hk,hi,hr,rfl⟩)
  ·
   rcases List.mem_append.1 hs with hs|hs
   ·
    exact .gen (.inr ⟨s,List.mem_append_left _ hs,hk,rfl⟩)
   ·
    exact(hb _ (.inr ⟨s,hs,rfl⟩)).mono old
 ·
  by_cases q:i=j
  ·
   subst q
   rw[hsame]
   exact hd.mono fun g hg=>by
    obtain⟨w,hw,rfl⟩:=hg
    exact .gen (GT.zb (List.mem_append_right _ hw) (hws w hw).2)
  ·
   exact absurd (ZaT q) e
end
end Go.Proofs.Ytdamfbighdkcbaa.V
