/- What the proof of the law Steps stands on, part 10: words, each Go function's Lean function, and that the Go code comes to its answers; no condition. (Packed by wip/myprint/pack.py out of what the kit's printer wrote, its words among it, partly by our patches of it, and out of texts of this session.) -/
import Derived.Test.YtdamfbighdkcbaaGreatKSteps3
import Derived.Test.YtdamfbighdkcbaaGreatKSteps4
import Derived.Test.YtdamfbighdkcbaaGreatKSteps5
import Derived.Test.YtdamfbighdkcbaaGreatKSteps7
import Derived.Test.YtdamfbighdkcbaaGreatKSteps8
import Derived.Test.YtdamfbighdkcbaaGreatKSteps9
set_option linter.unusedVariables false
set_option linter.unusedSimpArgs false
set_option maxHeartbeats 4000000
set_option maxRecDepth 20000
namespace Go.Proofs.YtdamfbighdkcbaaGreat.V
open Go.RowKit Go.Proofs.YtdamfbighdkcbaaGreat.D
def sgn:Nat->Int
 | 0=>-1
 | j+1=>0-sgn j
def sumJ (g:List (List Int)) (A:List Int->Int) (xs:List Int):Nat->Int
 | 0=>0
 | j+1=>sumJ g A xs j+sgn j*A (join2 g xs j)
def BdS (g:List (List Int)) (u:List Int) (A:List Int->Int) (xs:List Int) (d:Nat):Int:=rd u (rd xs 0)*A (xs.drop 1)+sumJ g A xs d+sgn d*A (xs.take d)
theorem Bd_eq (g:List (List Int)) (u v xs:List Int) (d:Nat):Bd g u v xs d=BdS g u (At g v) xs d:=by
 have h:∀j,bsum g u v xs j=(rd u (rd xs 0)*At g v (xs.drop 1)+sumJ g (At g v) xs j,sgn j):=by
  intro j
  induction j with
  | zero=>simp[bsum,sumJ,sgn]
  | succ j ih=>simp only[bsum,ih,sumJ,sgn,Int.add_assoc]
 unfold Bd BdS;rw[h d]
theorem Znj (g:List (List Int)) (A A' : List Int->Int) (c:Int) (xs:List Int):∀d,sumJ g (λ l=>A l+c*A' l) xs d=sumJ g A xs d+c*sumJ g A' xs d:=by
 intro d
 induction d with
 | zero=>simp[sumJ]
 | succ d ih =>
  simp only[sumJ,ih,Int.mul_add];rw[<-Int.mul_assoc (sgn d) c,Int.mul_comm (sgn d) c,Int.mul_assoc];omega
theorem ZnI (g:List (List Int)) (u:List Int) (A A' : List Int->Int) (c:Int) (xs:List Int) (d:Nat):BdS g u (λ l=>A l+c*A' l) xs d=BdS g u A xs d+c*BdS g u A' xs d:=by unfold BdS;rw[Znj];simp only[Int.mul_add];rw[<-Int.mul_assoc (sgn d) c,Int.mul_comm (sgn d) c,Int.mul_assoc,<-Int.mul_assoc (rd u (rd xs 0)) c,Int.mul_comm (rd u (rd xs 0)) c,Int.mul_assoc];omega
noncomputable def AtF (g:List (List Int)) (h:Vc) (xs:List Int):Int:=ite_ (Zb2 xs) (h (idx g xs).toNat) 0
theorem At_F (g:List (List Int)) (v:List Int):At g v=AtF g (V v):=by
 funext xs
 unfold At AtF
 by_cases h:Zb2 xs
 ·rw[Zb4 h,Zb4 h];show v.getD (idx g xs).toNat 0=v.getD ((((idx g xs).toNat:Nat):Int)).toNat 0;rw[Int.toNat_natCast]
 ·rw[Zb9 h,Zb9 h]
theorem ZnH (g:List (List Int)) (h h' : Vc) (c:Int):AtF g (λ i=>h i+c*h' i)=λ l=>AtF g h l+c*AtF g h' l:=by
 funext xs
 unfold AtF
 by_cases k:Zb2 xs
 ·simp only[Zb4 k]
 ·simp only[Zb9 k];omega
theorem Zmy (g:List (List Int)):AtF g (λ _=>0)=λ _=>0:=by
 funext xs
 unfold AtF
 by_cases k:Zb2 xs
 ·rw[Zb4 k]
 ·rw[Zb9 k]
theorem Zmq (g:List (List Int)) (xs:List Int):∀d,sumJ g (λ _=>0) xs d=0:=by
 intro d
 induction d with
 | zero=>rfl
 | succ d ih=>simp[sumJ,ih]
theorem Zmz (g:List (List Int)) (u xs:List Int) (d:Nat):BdS g u (λ _=>0) xs d=0:=by unfold BdS;rw[Zmq];simp
theorem Zo1 {g:List (List Int)} (hg:Grp g) {e:Nat} (he:e<=3) {xs:List Int} (hx:AllIn g.length xs) (hl:xs.length=e) (h:Zb2 xs):0<=idx g xs/\(idx g xs).toNat<nB g e:=by obtain⟨a,b⟩:=ZeB hg (Zkl hg (m:=2) (by omega) he 0) hx (by omega) h;rw[ZcH]at b;have:((cells g (e:Int)).toNat:Int)=((nB g e:Nat):Int):=rfl;omega
theorem ZfG {g:List (List Int)} (hg:Grp g) {m:Int} {e:Nat} (he:e<=3) {h h' : Vc} (hh:∀i,i<nB g e->m∣h i-h' i) {xs:List Int} (hx:AllIn g.length xs) (hl:xs.length=e):m∣AtF g h xs-AtF g h' xs:=by
 unfold AtF
 by_cases k:Zb2 xs
 ·rw[Zb4 k,Zb4 k];exact hh _ (Zo1 hg he hx hl k).2
 ·rw[Zb9 k,Zb9 k];exact⟨0,by omega⟩
theorem Zdo {m a b c:Int} (h:m∣a-b):m∣c*a-c*b:=by rw[<-Int.mul_sub];exact Int.dvd_mul_of_dvd_right h
theorem Zdn {m a b c d:Int} (h:m∣a-b) (h' : m∣c-d):m∣(a+c)-(b+d):=by have:=Int.dvd_add h h';rwa[show a-b+(c-d)=a+c-(b+d)by omega]at this
theorem ZhH {g:List (List Int)} (hg:Grp g) {m:Int} {u:List Int} {e:Nat} (he:e<=3) {h h' : Vc} (hh:∀i,i<nB g e->m∣h i-h' i) {xs:List Int} (hx:AllIn g.length xs) (hl:xs.length=e+1):m∣BdS g u (AtF g h) xs e-BdS g u (AtF g h') xs e:=by
 unfold BdS;refine Zdn (Zdn (Zdo (ZfG hg he hh (hx.drop 1) (by rw[List.length_drop];omega))) ?_) (Zdo (ZfG hg he hh (hx.take e) (by rw[List.length_take];omega)));have:∀d,d<=e->m∣sumJ g (AtF g h) xs d-sumJ g (AtF g h') xs d:=by
  intro d
  induction d with
  | zero=>intro _;exact⟨0,by simp[sumJ]⟩
  | succ d ih =>
   intro hd;obtain⟨k1,k2⟩:=Zfw hg hx (j:=d) (by omega);exact Zdn (ih (by omega)) (Zdo (ZfG hg he hh k1 (by omega)))
 exact this e (Nat.le_refl _)
def Bnd (g:List (List Int)) (m:Int) (u:List Int) (e:Nat) (z:Vc):Prop:=∀i,i<nB g (e+1)->m∣z i-BdS g u (AtF g λ k=>z (nB g (e+1)+k)) (lst ((g.length:Int)-1) (e+1) (i:Int)) e
theorem Znz {g:List (List Int)} (hg:Grp g) {e i:Nat} (he:e<=3) (hi:i<nB g (e+1)):AllIn g.length (lst ((g.length:Int)-1) (e+1) (i:Int))/\Zb2 (lst ((g.length:Int)-1) (e+1) (i:Int)):=by obtain⟨c1,c2⟩:=nA_bd hg (e:=e+1) (by omega);exact Zf4 hg (n:=e+1) (by omega)
theorem Zjw {g:List (List Int)} (hg:Grp g) {m:Int} (m2:2<=m) {u:List Int} {e:Nat} (he:e<=3) {z:Vc} (hz:allM g m u e z):Bnd g m u e z:=by
 have hs:Sub m (nB g (e+1)+nB g e) (Bnd g m u e):=by
  refine⟨λ i hi=>?_,λ x y hx hy c i hi=>?_,λ x y hx h i hi=>?_⟩
  ·rw[Zmy,Zmz];exact⟨0,by dsimp only;omega⟩
  ·have e1:=ZnH g (λ k=>x (nB g (e+1)+k)) (λ k=>y (nB g (e+1)+k)) c;rw[e1,ZnI];exact Zdn (hx i hi) (Zdo (hy i hi))
  ·have h1:=hx i hi;have h2:=h i (by omega);have h3:=ZhH hg (u:=u) he (h:=λ k=>x (nB g (e+1)+k)) (h':=λ k=>y (nB g (e+1)+k)) (m:=m) (λ k hk=>h _ (by omega)) (Znz hg he hi).1 (ZcO ..);have:=Int.dvd_add (Int.dvd_sub h1 h2) h3;rwa[show ∀a b c d:Int,a-b-(a-c)+(b-d)=c-d from λ a b c d=>by omega]at this
 refine hs.all (λ w hw=>?_) hz;obtain⟨k,hk,rfl⟩:=hw;intro i hi;have bl:(bdU g m u e k).length=nB g (e+1):=ZbX ..;have e1:(λ j=>V (bdA g m u e k) (nB g (e+1)+j))=V (unitC (cells g (e:Int)).toNat k):=by
  funext j
  show rd (bdU g m u e k++unitC (nB g e) k) ((nB g (e+1)+j:Nat):Int)=rd (unitC (nB g e) k) (j:Int);rw[ZbN (by omega),bl,show nB g (e+1)+j-nB g (e+1)=j by omega]
 have e2:V (bdA g m u e k) i=bdV g u (unitC (cells g (e:Int)).toNat k) e i%m:=by show rd (bdU g m u e k++unitC (nB g e) k) (i:Int)=_;rw[ZbH (by omega),rd_get (by omega)];simp only[bdU,bdL,List.getElem_map,List.getElem_range]
 rw[e1,e2,<-At_F,<-Bd_eq];exact⟨-(bdV g u (unitC (cells g (e:Int)).toNat k) e i / m),by have:=Int.mul_ediv_add_emod (bdV g u (unitC (cells g (e:Int)).toNat k) e i) m;rw[Int.mul_neg];show bdV g u (unitC (cells g (e:Int)).toNat k) e i%m-bdV g u (unitC (cells g (e:Int)).toNat k) e i=_;omega⟩
noncomputable def sumA (g:List (List Int)) (m:Int) (u:List Int) (e:Nat) (y:Vc):Nat->Vc
 | 0=>λ _=>0
 | k+1=>λ i=>sumA g m u e y k i+y k*V (bdA g m u e k) i
theorem Zni {g:List (List Int)} {m:Int} {u:List Int} {e:Nat} (y:Vc):∀k,k<=nB g e->allM g m u e (sumA g m u e y k):=by
 intro k
 induction k with
 | zero=>exact λ _=>.nil
 | succ k ih=>exact λ hk=>.add _ (ih (by omega)) ⟨k,by omega,rfl⟩
theorem Zkk {c k j:Nat} (hk:k<c):rd (unitC c k) (j:Int)=if j=k then 1 else 0:=by
 unfold unitC
 by_cases e:j=k
 ·subst e;rw[if_pos rfl,Zbw (by simpa using hk)]
 ·rw[if_neg e,ZbE e,ZbV]
theorem Zmp {g:List (List Int)} {m:Int} {u:List Int} {e:Nat} (y:Vc) (j:Nat):∀k,k<=nB g e->sumA g m u e y k (nB g (e+1)+j)=if j<k then y j else 0:=by
 intro k
 induction k with
 | zero=>intro _;simp[sumA]
 | succ k ih =>
  intro hk;have bl:(bdU g m u e k).length=nB g (e+1):=ZbX ..;have e1:V (bdA g m u e k) (nB g (e+1)+j)=if j=k then 1 else 0:=by show rd (bdU g m u e k++unitC (nB g e) k) ((nB g (e+1)+j:Nat):Int)=_;rw[ZbN (by omega),bl,show nB g (e+1)+j-nB g (e+1)=j by omega,Zkk (by omega)]
  show sumA g m u e y k (nB g (e+1)+j)+y k*V (bdA g m u e k) (nB g (e+1)+j)=_;rw[ih (by omega),e1]
  by_cases h1:j<k
  ·rw[if_pos h1,if_neg (by omega),if_pos (by omega)];omega
  ·
   by_cases h2:j=k
   ·subst h2;rw[if_neg h1,if_pos rfl,if_pos (by omega)];omega
   ·rw[if_neg h1,if_neg h2,if_neg (by omega)];omega
theorem ZmE {g:List (List Int)} (hg:Grp g) {m:Int} (m2:2<=m) {u:List Int} {e:Nat} (he:e<=3) {z:Vc} (hz:Bnd g m u e z):allM g m u e z:=by
 have h1:=Zni (g:=g) (m:=m) (u:=u) (e:=e) (λ k=>z (nB g (e+1)+k)) (nB g e) (Nat.le_refl _);have h2:=Zjw hg m2 he h1;have ht:∀j,j<nB g e->sumA g m u e (λ k=>z (nB g (e+1)+k)) (nB g e) (nB g (e+1)+j)=z (nB g (e+1)+j):=λ j hj=>by rw[Zmp _ _ _ (Nat.le_refl _),if_pos hj]
 refine .alike h1 λ i hi=>?_
 by_cases k:i<nB g (e+1)
 ·have a:=h2 i k;have b:=hz i k;have c:=ZhH hg (u:=u) (m:=m) he (h:=λ k=>sumA g m u e (λ k=>z (nB g (e+1)+k)) (nB g e) (nB g (e+1)+k)) (h':=λ k=>z (nB g (e+1)+k)) (λ j hj=>ZaG (ht j hj)) (Znz hg he k).1 (ZcO ..);have:=Int.dvd_sub (Int.dvd_add a c) b;rwa[show ∀a b c d:Int,a-b+(b-c)-(d-c)=a-d from λ a b c d=>by omega]at this
 ·
  obtain⟨j,rfl⟩:∃j,i=nB g (e+1)+j:=⟨i-nB g (e+1),by omega⟩
  exact ZaG (ht j (by omega))
theorem ZgZ {g:List (List Int)} (hg:Grp g) {m:Int} (m2:2<=m) {u:List Int} {e:Nat} (he:e<=3) {w y:List Int} (hw:w.length=nB g (e+1)):allM g m u e (V (w++y))↔∀i,i<nB g (e+1)->m∣rd w (i:Int)-bdV g u y e i:=by
 have e1:(λ k=>V (w++y) (nB g (e+1)+k))=V y:=by
  funext k
  show rd (w++y) ((nB g (e+1)+k:Nat):Int)=rd y (k:Int);rw[ZbN (by omega),hw,show nB g (e+1)+k-nB g (e+1)=k by omega]
 have e2:Bnd g m u e (V (w++y))↔∀i,i<nB g (e+1)->m∣rd w (i:Int)-bdV g u y e i:=by
  unfold Bnd;rw[e1]
  constructor
  ·intro h i hi;have:=h i hi;rw[<-At_F,<-Bd_eq]at this;rwa[show V (w++y) i=rd w (i:Int)from ZbH (by omega)]at this
  ·intro h i hi;rw[<-At_F,<-Bd_eq,show V (w++y) i=rd w (i:Int)from ZbH (by omega)];exact h i hi
 exact⟨λ h=>e2.1 (Zjw hg m2 he h),λ h=>ZmE hg m2 he (e2.2 h)⟩
open Go.RowKit Go.Proofs.YtdamfbighdkcbaaGreat.D Go.Proofs.YtdamfbighdkcbaaGreat.P
theorem ZoE {xs:List Int} {n:Nat} (h:xs.length=n+1):∃ys x,xs=ys++[x]/\ys.length=n:=by
 have hne:xs≠[]:=λ e=>by rw[e]at h;simp at h
 refine⟨xs.dropLast,xs.getLast hne,(List.dropLast_concat_getLast hne).symm,by rw[List.length_dropLast];omega⟩
theorem Zoh {g:List (List Int)}:∀(n:Nat) (xs:List Int),xs.length=n->(∀x∈xs,1<=x/\x<g.length)->lst ((g.length:Int)-1) n (idx g xs)=xs:=by
 intro n
 induction n with
 | zero=>intro xs hl _;rw[List.eq_nil_of_length_eq_zero hl];rfl
 | succ n ih =>
  intro xs hl hx;obtain⟨ys,x,rfl,hy⟩:=ZoE hl;obtain⟨x0,x1⟩:=hx x (by simp);rw[Zha,lst];have e1:(idx g ys*((g.length:Int)-1)+x-1) / ((g.length:Int)-1)=idx g ys:=by rw[show idx g ys*((g.length:Int)-1)+x-1=(x-1)+idx g ys*((g.length:Int)-1)by omega,Int.add_mul_ediv_right _ _ (by omega),Int.ediv_eq_zero_of_lt (by omega) (by omega)];omega
  have e2:(idx g ys*((g.length:Int)-1)+x-1)%((g.length:Int)-1)=x-1:=by rw[show idx g ys*((g.length:Int)-1)+x-1=(x-1)+idx g ys*((g.length:Int)-1)by omega,Int.add_mul_emod_self_right,Int.emod_eq_of_lt (by omega) (by omega)]
  rw[e1,e2,ih ys hy λ z hz=>hx z (by simp[hz]),show x-1+1=x by omega]
theorem Zoa {g:List (List Int)}:∀(n:Nat) (i:Int),0<=i->i<((g.length:Int)-1) ^ n->(n=0\/2<=g.length)->idx g (lst ((g.length:Int)-1) n i)=i:=by
 intro n
 induction n with
 | zero=>intro i i0 i1 _;rw[Int.pow_zero]at i1;simp[lst,idx];omega
 | succ n ih =>
  intro i i0 i1 h2;have hb:0<(g.length:Int)-1:=by omega
  rw[lst,Zha,ih _ (Int.ediv_nonneg i0 (by omega)) (by rw[Int.pow_succ]at i1;exact Int.ediv_lt_of_lt_mul hb i1) (by omega)]
  have:=Int.mul_ediv_add_emod i ((g.length:Int)-1);rw[Int.mul_comm]at this;omega
theorem ZoH {g:List (List Int)} {C:Nat} {G:Nat->Int} {xs:List Int} (h:Zb2 xs) (hi:(idx g xs).toNat<C):At g ((List.range C).map G) xs=G (idx g xs).toNat:=by unfold At;rw[Zb4 h];show((List.range C).map G).getD (idx g xs).toNat 0=_;simp[List.getD_eq_getElem?_getD,List.getElem?_map,List.getElem?_range hi]
def ConP (g:List (List Int)) (m:Int) (u v r:List Int) (n:Nat):Prop:=∀x:Int,0<=x->x<n->∀y:Int,0<=y->y<n->T g x y<n->(rd r x+rd u x*rd r y+At g v [x,y])%m=rd r (T g x y)
theorem ConP.pre {g:List (List Int)} {m:Int} {u v r r' : List Int} {n n' : Nat} (h:ConP g m u v r n) (hn:n' <= n) (hg:Grp g) (hN:n<=g.length) (he:∀i:Int,0<=i->i<n'->rd r' i=rd r i):ConP g m u v r' n':=by intro x x0 x1 y y0 y1 ht;have e:=h x x0 (by omega) y y0 (by omega) (by omega);obtain⟨t0,_⟩:=hg.ent x y x0 (by omega) y0 (by omega);rw[he x x0 x1,he y y0 y1,he _ t0 ht];exact e
def cg (m a b:Int):Prop:=m∣a-b
theorem ZeZ (m a:Int):cg m a a:=⟨0,by simp⟩
theorem cg.symm {m a b:Int} (h:cg m a b):cg m b a:=by obtain⟨x,hx⟩:=h;exact⟨-x,by rw[Int.mul_neg];omega⟩
theorem cg.trans {m a b c:Int} (h:cg m a b) (k:cg m b c):cg m a c:=by obtain⟨x,hx⟩:=h;obtain⟨y,hy⟩:=k;exact⟨x+y,by rw[Int.mul_add];omega⟩
theorem ZhP {m a b c d:Int} (h:cg m a b) (k:cg m c d):cg m (a+c) (b+d):=by obtain⟨x,hx⟩:=h;obtain⟨y,hy⟩:=k;exact⟨x+y,by rw[Int.mul_add];omega⟩
theorem ZhR {m a b c d:Int} (h:cg m a b) (k:cg m c d):cg m (a-c) (b-d):=by obtain⟨x,hx⟩:=h;obtain⟨y,hy⟩:=k;exact⟨x-y,by rw[Int.mul_sub];omega⟩
theorem ZjB {m a b c d:Int} (h:cg m a b) (k:cg m c d):cg m (a*c) (b*d):=by
 obtain⟨x,hx⟩:=h;obtain⟨y,hy⟩:=k
 exact⟨x*c+b*y,by grind⟩
theorem ZhQ (m a:Int):cg m (a%m) a:=cg.symm Int.dvd_self_sub_emod
theorem Zda {m a b:Int} (h:a=b):cg m a b:=by rw[h];exact ZeZ _ _
noncomputable def tl (g:List (List Int)) (d:Nat) (F:List Int->Int):List Int:=(List.range (cells g (d:Int)).toNat).map λ i:Nat=>F (lst ((g.length:Int)-1) d (i:Int))
theorem At_tl {g:List (List Int)} (hg:Grp g) {d:Nat} (hd:d<=4) (F:List Int->Int) {xs:List Int} (hx:AllIn g.length xs) (hl:xs.length=d):At g (tl g d F) xs=ite_ (Zb2 xs) (F xs) 0:=by
 by_cases h:Zb2 xs
 rotate_left
 ·unfold At;rw[Zb9 h,Zb9 h]
 have hi:0<=idx g xs/\(idx g xs).toNat<nB g d:=by have hb:=ZlK hg hx xs.length (Nat.le_refl _) (λ j j0 j1=>h j j0 (by omega));rw[List.take_length,hl]at hb;refine⟨hb.1,?_⟩;obtain⟨b1,b2⟩:=nA_bd hg (e:=d) hd;have:cells g (d:Int)=((g.length:Int)-1) ^ d:=rfl;omega
 have e:=ZoH (g:=g) (C:=(cells g (d:Int)).toNat) (G:=λ i:Nat=>F (lst ((g.length:Int)-1) d (i:Int))) h hi.2;unfold tl;rw[e,Int.toNat_of_nonneg hi.1,Zb4 h,Zoh d xs hl λ x hx'=>by obtain⟨j,hj,e⟩:=List.mem_iff_getElem.1 hx';obtain⟨a0,a1⟩:=hx.mem hx';have:=h (j:Int) (by omega) (by omega);rw[rd_get hj,e]at this;omega]
theorem ZkX {g:List (List Int)} {v xs:List Int} (h:¬ Zb2 xs):At g v xs=0:=by unfold At;exact Zb9 h _ _
theorem Zjs {g:List (List Int)} (hg:Grp g) {m:Int} {u v xs:List Int} {d:Nat} (hd:d<=3) (hx:AllIn g.length xs) (hl:xs.length=d+1) (hn:Zb2 xs):At g (bdL g m u v d) xs=Bd g u v xs d%m:=by have e:bdL g m u v d=tl g (d+1) (λ ys=>Bd g u v ys d%m):=rfl;rw[e,At_tl hg (by omega) _ hx hl,Zb4 hn]
end Go.Proofs.YtdamfbighdkcbaaGreat.V
set_option maxHeartbeats 8000000
namespace Go.Proofs.YtdamfbighdkcbaaGreat.V
open Go.RowKit Go.Proofs.YtdamfbighdkcbaaGreat.D Go.Proofs.YtdamfbighdkcbaaGreat.P
theorem bdZ {g:List (List Int)} {u v:List Int} {x:Int}:Bd g u v [x] 0=rd u x*At g v []-At g v []:=by have e0:rd [x] 0=x:=rfl;simp only[Bd,bsum,List.drop_succ_cons,List.drop_zero,List.take_zero,e0];omega
theorem bdT {g:List (List Int)} {u v:List Int} {x y z:Int}:Bd g u v [x,y,z] 2=rd u x*At g v [y,z]-At g v [T g x y,z]+At g v [x,T g y z]-At g v [x,y]:=by simp only[Bd,bsum,join2,List.take_zero,List.nil_append,List.drop_succ_cons,List.drop_zero,List.take_succ_cons];have e0:rd [x,y,z] 0=x:=rfl;have e1:rd [x,y,z] ((0+1:Nat):Int)=y:=rfl;have e2:rd [x,y,z] ((0:Nat):Int)=x:=rfl;have e3:rd [x,y,z] ((1+1:Nat):Int)=z:=rfl;have e4:rd [x,y,z] ((1:Nat):Int)=y:=rfl;simp only[e0,e1,e2,e3,e4,List.append_nil,List.singleton_append,List.cons_append,List.nil_append];omega
theorem bdO {g:List (List Int)} {u v:List Int} {x y:Int}:Bd g u v [x,y] 1=rd u x*At g v [y]-At g v [T g x y]+At g v [x]:=by simp only[Bd,bsum,join2,List.take_zero,List.nil_append,List.drop_succ_cons,List.drop_zero,List.take_succ_cons];have e0:rd [x,y] 0=x:=rfl;have e1:rd [x,y] ((0+1:Nat):Int)=y:=rfl;have e2:rd [x,y] ((0:Nat):Int)=x:=rfl;simp only[e0,e1,e2,List.append_nil];omega
theorem bdQ {g:List (List Int)} {u v:List Int} {x y z w:Int}:Bd g u v [x,y,z,w] 3=rd u x*At g v [y,z,w]-At g v [T g x y,z,w]+At g v [x,T g y z,w]-At g v [x,y,T g z w]+At g v [x,y,z]:=by simp only[Bd,bsum,join2,List.take_zero,List.nil_append,List.drop_succ_cons,List.drop_zero,List.take_succ_cons];have e0:rd [x,y,z,w] 0=x:=rfl;have e1:rd [x,y,z,w] ((0+1:Nat):Int)=y:=rfl;have e2:rd [x,y,z,w] ((0:Nat):Int)=x:=rfl;have e3:rd [x,y,z,w] ((1+1:Nat):Int)=z:=rfl;have e4:rd [x,y,z,w] ((1:Nat):Int)=y:=rfl;have e5:rd [x,y,z,w] ((2+1:Nat):Int)=w:=rfl;have e6:rd [x,y,z,w] ((2:Nat):Int)=z:=rfl;simp only[e0,e1,e2,e3,e4,e5,e6,List.append_nil,List.singleton_append,List.cons_append,List.nil_append];omega
theorem Zhg {x:Int}:Zb2 [x]↔x≠0:=by
 constructor
 ·intro h;exact h 0 (by omega) (by simp)
 ·
  intro h j j0 j1;have:j=0:=by simp at j1;omega
  subst this;exact h
theorem Zcz {x:Int} {xs:List Int}:Zb2 (x :: xs)↔x≠0/\Zb2 xs:=by
 constructor
 ·intro h;refine⟨h 0 (by omega) (by rw[List.length_cons];omega),λ j j0 j1=>?_⟩;obtain⟨n,rfl⟩:=Int.eq_ofNat_of_zero_le j0;have:=h ((n+1:Nat):Int) (by omega) (by rw[List.length_cons];omega);rwa[rd_cs]at this
 ·
  rintro⟨h1,h2⟩ j j0 j1;obtain⟨n,rfl⟩:=Int.eq_ofNat_of_zero_le j0
  cases n with
  | zero=>rw[rd_c0];exact h1
  | succ n=>rw[rd_cs];exact h2 n (by omega) (by rw[List.length_cons]at j1;omega)
theorem At0 {g:List (List Int)} {v:List Int} {a b:List Int}:At g v (a++0 :: b)=0:=ZkX λ h=>by
 have:=h (a.length:Int) (by omega) (by rw[List.length_append,List.length_cons];omega)
 rw[rd_get (by rw[List.length_append,List.length_cons];omega),List.getElem_append_right (Nat.le_refl _)]at this
 simp at this
section
variable {g:List (List Int)} {m:Int} {u v:List Int}
theorem At_d0 (hg:Grp g) (hm:Mdl g m u) {x:Int} (x0:0<=x) (x1:x<g.length):cg m (At g (bdL g m u v 0) [x]) (rd u x*At g v []-At g v []):=by
 by_cases h:x=0
 ·subst h;rw[show At g (bdL g m u v 0) [0]=0 from At0 (a:=[]),hm.one hg];exact Zda (by omega)
 ·rw[Zjs hg (d:=0) (by omega) (ZdJ x0 x1) rfl (Zhg.2 h),bdZ];exact ZhQ m _
theorem At_d1 (hg:Grp g) (hm:Mdl g m u) {x y:Int} (x0:0<=x) (x1:x<g.length) (y0:0<=y) (y1:y<g.length):cg m (At g (bdL g m u v 1) [x,y]) (rd u x*At g v [y]-At g v [T g x y]+At g v [x]):=by
 by_cases h:x=0
 ·subst h;rw[show At g (bdL g m u v 1) [0,y]=0 from At0 (a:=[]),hm.one hg,hg.one y y0 y1,show At g v [0]=0 from At0 (a:=[])];exact Zda (by omega)
 ·
  by_cases k:y=0
  ·subst k;rw[show At g (bdL g m u v 1) [x,0]=0 from At0 (a:=[x]),hg.one' x x0 x1,show At g v [0]=0 from At0 (a:=[])];exact Zda (by omega)
  ·rw[Zjs hg (d:=1) (by omega) (Zdb x0 x1 y0 y1) rfl (Zcz.2 ⟨h,Zhg.2 k⟩),bdO];exact ZhQ m _
theorem At_d2 (hg:Grp g) (hm:Mdl g m u) {x y z:Int} (x0:0<=x) (x1:x<g.length) (y0:0<=y) (y1:y<g.length) (z0:0<=z) (z1:z<g.length):cg m (At g (bdL g m u v 2) [x,y,z]) (rd u x*At g v [y,z]-At g v [T g x y,z]+At g v [x,T g y z]-At g v [x,y]):=by
 by_cases h:x=0
 ·subst h;rw[show At g (bdL g m u v 2) [0,y,z]=0 from At0 (a:=[]),hm.one hg,hg.one y y0 y1,show At g v [0,T g y z]=0 from At0 (a:=[]),show At g v [0,y]=0 from At0 (a:=[])];exact Zda (by omega)
 ·
  by_cases k:y=0
  ·subst k;rw[show At g (bdL g m u v 2) [x,0,z]=0 from At0 (a:=[x]),hg.one' x x0 x1,hg.one z z0 z1,show At g v [0,z]=0 from At0 (a:=[]),show At g v [x,0]=0 from At0 (a:=[x])];exact Zda (by omega)
  ·
   by_cases l:z=0
   ·subst l;rw[show At g (bdL g m u v 2) [x,y,0]=0 from At0 (a:=[x,y]),hg.one' y y0 y1,show At g v [y,0]=0 from At0 (a:=[y]),show At g v [T g x y,0]=0 from At0 (a:=[T g x y])];exact Zda (by omega)
   ·rw[Zjs hg (d:=2) (by omega) (ZiE x0 x1 y0 y1 z0 z1) rfl (Zcz.2 ⟨h,Zcz.2 ⟨k,Zhg.2 l⟩⟩),bdT];exact ZhQ m _
theorem u_hom (hg:Grp g) (hm:Mdl g m u) {x y:Int} (x0:0<=x) (x1:x<g.length) (y0:0<=y) (y1:y<g.length) (a:Int):cg m (rd u (T g x y)*a) (rd u x*(rd u y*a)):=by have hl:=hm.len;rw[hm.hom x x0 (by omega) y y0 (by omega),<-Int.mul_assoc];exact ZjB (ZhQ m _) (ZeZ m a)
theorem dd0 (hg:Grp g) (hm:Mdl g m u) {x y:Int} (x0:0<=x) (x1:x<g.length) (y0:0<=y) (y1:y<g.length):cg m (Bd g u (bdL g m u v 0) [x,y] 1) 0:=by obtain⟨t0,t1⟩:=hg.ent x y x0 x1 y0 y1;rw[bdO];have h1:=ZjB (ZeZ m (rd u x)) (At_d0 hg hm (v:=v) y0 y1);have h2:=At_d0 hg hm (v:=v) t0 t1;have h3:=At_d0 hg hm (v:=v) x0 x1;have k:=u_hom hg hm x0 x1 y0 y1 (At g v []);have s:=ZhP (ZhR h1 h2) h3;refine s.trans ?_;obtain⟨q,hq⟩:=k;refine⟨-q,?_⟩;rw[Int.mul_neg,<-hq,Int.mul_sub];omega
theorem dd1 (hg:Grp g) (hm:Mdl g m u) {x y z:Int} (x0:0<=x) (x1:x<g.length) (y0:0<=y) (y1:y<g.length) (z0:0<=z) (z1:z<g.length):cg m (Bd g u (bdL g m u v 1) [x,y,z] 2) 0:=by obtain⟨t0,t1⟩:=hg.ent x y x0 x1 y0 y1;obtain⟨s0,s1⟩:=hg.ent y z y0 y1 z0 z1;rw[bdT];have h1:=ZjB (ZeZ m (rd u x)) (At_d1 hg hm (v:=v) y0 y1 z0 z1);have h2:=At_d1 hg hm (v:=v) t0 t1 z0 z1;have h3:=At_d1 hg hm (v:=v) x0 x1 s0 s1;have h4:=At_d1 hg hm (v:=v) x0 x1 y0 y1;have k:=u_hom hg hm x0 x1 y0 y1 (At g v [z]);have s:=ZhR (ZhP (ZhR h1 h2) h3) h4;refine s.trans ?_;obtain⟨q,hq⟩:=k;refine⟨-q,?_⟩;rw[Int.mul_neg,<-hq,Int.mul_add,Int.mul_sub,hg.assoc x y z x0 x1 y0 y1 z0 z1];omega
theorem dd2 (hg:Grp g) (hm:Mdl g m u) {x y z w:Int} (x0:0<=x) (x1:x<g.length) (y0:0<=y) (y1:y<g.length) (z0:0<=z) (z1:z<g.length) (w0:0<=w) (w1:w<g.length):cg m (Bd g u (bdL g m u v 2) [x,y,z,w] 3) 0:=by obtain⟨t0,t1⟩:=hg.ent x y x0 x1 y0 y1;obtain⟨s0,s1⟩:=hg.ent y z y0 y1 z0 z1;obtain⟨r0,r1⟩:=hg.ent z w z0 z1 w0 w1;rw[bdQ];have h1:=ZjB (ZeZ m (rd u x)) (At_d2 hg hm (v:=v) y0 y1 z0 z1 w0 w1);have h2:=At_d2 hg hm (v:=v) t0 t1 z0 z1 w0 w1;have h3:=At_d2 hg hm (v:=v) x0 x1 s0 s1 w0 w1;have h4:=At_d2 hg hm (v:=v) x0 x1 y0 y1 r0 r1;have h5:=At_d2 hg hm (v:=v) x0 x1 y0 y1 z0 z1;have k:=u_hom hg hm x0 x1 y0 y1 (At g v [z,w]);have s:=ZhP (ZhR (ZhP (ZhR h1 h2) h3) h4) h5;refine s.trans ?_;obtain⟨q,hq⟩:=k;refine⟨-q,?_⟩;rw[Int.mul_neg,<-hq,Int.mul_sub,Int.mul_add,Int.mul_sub,hg.assoc x y z x0 x1 y0 y1 z0 z1,hg.assoc y z w y0 y1 z0 z1 w0 w1];omega
theorem dd (hg:Grp g) (hm:Mdl g m u) {e:Nat} (he:e<=2) {xs:List Int} (hx:AllIn g.length xs) (hl:xs.length=e+2):cg m (Bd g u (bdL g m u v e) xs (e+1)) 0:=by
 have c:e=0\/e=1\/e=2:=by omega
 rcases c with rfl|rfl|rfl
 ·
  match xs,hl with
  | [x,y],_ =>
   have hx':=λ z hz=>hx.mem (x:=z) hz
   obtain⟨a0,a1⟩:=hx' x (by simp);obtain⟨b0,b1⟩:=hx' y (by simp);exact dd0 hg hm a0 a1 b0 b1
 ·
  match xs,hl with
  | [x,y,z],_ =>
   have hx':=λ z hz=>hx.mem (x:=z) hz
   obtain⟨a0,a1⟩:=hx' x (by simp);obtain⟨b0,b1⟩:=hx' y (by simp);obtain⟨c0,c1⟩:=hx' z (by simp);exact dd1 hg hm a0 a1 b0 b1 c0 c1
 ·
  match xs,hl with
  | [x,y,z,w],_ =>
   have hx':=λ z hz=>hx.mem (x:=z) hz
   obtain⟨a0,a1⟩:=hx' x (by simp);obtain⟨b0,b1⟩:=hx' y (by simp);obtain⟨c0,c1⟩:=hx' z (by simp);obtain⟨d0,d1⟩:=hx' w (by simp);exact dd2 hg hm a0 a1 b0 b1 c0 c1 d0 d1
theorem bd_co (hg:Grp g) (hm:Mdl g m u) {n:Nat} (hn:n<=3) {x:Vc} (hx:Sp m (nB g n) (bdG g m u n) x):coM g m u n x:=by
 have m2:=hm.m2;have hs:Sub m (nB g n) (coM g m u n):=(ZdO hg hm hn).choose_spec.2.sub;refine hs.all (λ w hw=>?_) hx
 cases n with
 | zero=>exact hw.elim
 | succ e =>
  obtain⟨i,hi,rfl⟩:=hw;have bl:(bdU g m u e i).length=nB g (e+1):=ZbX ..;have hz:coM g m u (e+1) (V (bdU g m u e i))↔allM g m u (e+1) (V (List.replicate (nB g (e+2)) 0++bdU g m u e i)):=by
   unfold coM allM;rw[show pad (nB g (e+1+1)) (V (bdU g m u e i))=V (List.replicate (nB g (e+2)) 0++bdU g m u e i)from ?_]
   funext k
   unfold pad
   by_cases hk:k<nB g (e+2)
   ·rw[if_pos hk];show 0=rd (List.replicate (nB g (e+2)) 0++bdU g m u e i) (k:Int);rw[ZbH (by rw[List.length_replicate];exact hk),ZbV]
   ·rw[if_neg hk];show rd (bdU g m u e i) _=rd (List.replicate (nB g (e+2)) 0++bdU g m u e i) (k:Int);rw[ZbN (by rw[List.length_replicate];omega),List.length_replicate]
  rw[hz,ZgZ hg m2 hn List.length_replicate];intro j hj;rw[ZbV];have hgl:=Zf4 hg (n:=e+1+1) (i:=j) (by obtain⟨c1,c2⟩:=nA_bd hg (e:=e+1+1) (by omega);omega)
  have:=dd hg hm (v:=unitC (cells g (e:Int)).toNat i) (e:=e) (by omega) hgl.1 (ZcO ..);obtain⟨q,hq⟩:=this;refine⟨-q,?_⟩;have e1:bdV g u (bdU g m u e i) (e+1) j=Bd g u (bdL g m u (unitC (cells g (e:Int)).toNat i) e) (lst ((g.length:Int)-1) (e+1+1) (j:Int)) (e+1):=rfl;rw[e1,Int.mul_neg];omega
end
def sel (p:List (List Int)) (W:Nat):List (List Int):=(nn p W).map λ j:Nat=>row p (j:Int)
theorem Zcw (p:List (List Int)) (W:Nat):(sel p W).length=(nn p W).length:=List.length_map ..
theorem Zmi {p:List (List Int)} {W k:Nat} (h:k<(nn p W).length):row (sel p W) (k:Int)=row p (((nn p W).getD k 0:Nat):Int):=by
 rw[Zbz (by rw[Zcw];exact h),List.getD_eq_getElem?_getD,List.getElem?_eq_getElem h]
 simp[sel]
theorem Zkd (p:List (List Int)) (W:Nat):sel p (W+1)=if row p (W:Int)≠[]then sel p W++[row p (W:Int)]else sel p W:=by
 unfold sel;rw[ZdV,List.map_append]
 by_cases h:row p (W:Int)≠[]
 ·rw[if_pos h,if_pos h];rfl
 ·rw[if_neg h,if_neg h];simp
theorem Zmh {p:List (List Int)} {W:Nat} (h:row p (W:Int)=[]):sel p (W+1)=sel p W:=by rw[Zkd,if_neg λ q=>q h]
theorem Zjn {p:List (List Int)} {W:Nat} (h:¬ row p (W:Int)=[]):sel p (W+1)=sel p W++[row p (W:Int)]:=by rw[Zkd,if_pos h]
theorem nn_le (p:List (List Int)) (W:Nat):(nn p W).length<=W:=by have:=List.length_filter_le (λ j=>decide (row p ((j:Nat):Int)≠[])) (List.range W);rwa[List.length_range]at this
theorem Rok.sel {m:Int} {W:Nat} {p:List (List Int)} (ht:PTab m W p):Rok m W (sel p W):=λ i hi=>by rw[Zcw]at hi;rw[Zmi hi];obtain⟨a,b⟩:=nn_at hi;have hP:=ht.prow a b;exact⟨hP.len,hP.ent⟩
theorem ZiX {p:List (List Int)} {W k:Nat} (h:k<(nn p W).length):gen p (nn p W) k=V (row (sel p W) (k:Int)):=by rw[Zmi h];rfl
theorem Zo8 {m:Int} (m2:2<=m) (m12:m<=12) {W:Nat} {p:List (List Int)} {M:Vc->Prop} (hM:Lead m W p M) (x:Vc):Mx m W (sel p W) x↔M x:=by
 constructor
 ·intro hx;refine hM.sub.all (λ g hg=>?_) hx;obtain⟨r,hr,rfl⟩:=hg;obtain⟨j,hj,rfl⟩:=List.mem_map.1 hr;obtain⟨a,b⟩:=ZnB.1 hj;exact hM.own j a b
 ·intro hx;obtain⟨c,hc⟩:=(Zdq m2 m12 hM x).1 hx;refine .alike (Sub.cmb Sp.sub (G:=gen p (nn p W)) (c:=c) _ λ k hk=>?_) hc;rw[ZiX hk];exact ZbR (by rw[Zcw];exact hk)
theorem ZjE {G G' : Nat->Vc} {c:Vc} {i i' : Nat}:∀n,(∀k,k<n->G k i=G' k i')->cmb G c n i=cmb G' c n i'
 | 0,_=>rfl
 | n+1,h=>by show cmb G c n i+c n*G n i=cmb G' c n i' + c n*G' n i';rw[ZjE n λ k hk=>h k (by omega),h n (by omega)]
theorem ZhV {G:Nat->Vc} {c:Vc} {j i:Nat}:∀n,(∀k,k<n->G k i=if k=j then 1 else 0)->cmb G c n i=if j<n then c j else 0
 | 0,_=>by rw[if_neg (Nat.not_lt_zero _)];rfl
 | n+1,h=>by
  show cmb G c n i+c n*G n i=_;rw[ZhV n λ k hk=>h k (by omega),h n (by omega)]
  by_cases e:n=j
  ·subst e;rw[if_neg (Nat.lt_irrefl _),if_pos rfl,if_pos (Nat.lt_succ_self _)];omega
  ·
   rw[if_neg e]
   by_cases hj:j<n
   ·rw[if_pos hj,if_pos (by omega)];omega
   ·rw[if_neg hj,if_neg (by omega)];omega
theorem ZjF {G:Nat->Vc} {c:Vc} {j i:Nat}:∀n,(∀k,k<n->c k=if k=j then 1 else 0)->cmb G c n i=if j<n then G j i else 0
 | 0,_=>by rw[if_neg (Nat.not_lt_zero _)];rfl
 | n+1,h=>by
  show cmb G c n i+c n*G n i=_;rw[ZjF n λ k hk=>h k (by omega),h n (by omega)]
  by_cases e:n=j
  ·subst e;rw[if_neg (Nat.lt_irrefl _),if_pos rfl,if_pos (Nat.lt_succ_self _)];omega
  ·
   rw[if_neg e]
   by_cases hj:j<n
   ·rw[if_pos hj,if_pos (by omega)];omega
   ·rw[if_neg hj,if_neg (by omega)];omega
theorem Zg3 {G:Nat->Vc} {c:Vc} {i:Nat}:∀n,(∀k,k<n->c k=0)->cmb G c n i=0
 | 0,_=>rfl
 | n+1,h=>by show cmb G c n i+c n*G n i=0;rw[Zg3 n λ k hk=>h k (by omega),h n (by omega)];omega
noncomputable def rrow (S b:List (List Int)) (W:Nat) (i:Nat):List Int:=if i<S.length then row S (i:Int)++unitC S.length i else row (sel b W) ((i-S.length:Nat):Int)++List.replicate S.length 0
theorem Zm7 {m:Int} (m2:2<=m) (m12:m<=12) {W:Nat} {z b:List (List Int)} {Z Bs:Vc->Prop} (hz:Lead m W z Z) (hb:Lead m W b Bs) (x:Vc) :
  Sp m (W+(nn z W).length) (Gn (rrow (sel z W) b W) ((nn z W).length+(nn b W).length)) x↔Bs (λ i=>x i+(-1)*cmb (gen z (nn z W)) (λ k=>x (W+k)) (nn z W).length i):=by
 obtain⟨r,hr⟩:∃r,r=(nn z W).length:=⟨_,rfl⟩
 have sl:(sel z W).length=r:=by rw[Zcw,hr]
 have hsr:=Rok.sel hz.tab;have hbr:=Rok.sel hb.tab;have hlow:∀k,k<r->∀i,i<W->V (rrow (sel z W) b W k) i=gen z (nn z W) k i:=λ k hk i hi=>by unfold rrow;rw[if_pos (by omega),ZiX (by omega)];show rd _ (i:Int)=rd _ (i:Int);rw[ZbH (by rw[(hsr k (by omega)).1];exact hi)]
 have hlow2:∀k,k<r->∀j,V (rrow (sel z W) b W k) (W+j)=if j=k then 1 else 0:=λ k hk j=>by unfold rrow;rw[if_pos (by omega)];show rd _ ((W+j:Nat):Int)=_;rw[ZbN (by rw[(hsr k (by omega)).1];omega),(hsr k (by omega)).1,show W+j-W=j by omega,Zkk (by omega)]
 have hhi:∀l,l<(nn b W).length->∀i,i<W->V (rrow (sel z W) b W (r+l)) i=gen b (nn b W) l i:=λ l hl i hi=>by unfold rrow;rw[if_neg (by omega),sl,show r+l-r=l by omega,ZiX hl];show rd _ (i:Int)=rd _ (i:Int);rw[ZbH (by rw[(hbr l (by rw[Zcw];exact hl)).1];exact hi)]
 have hhi2:∀l,l<(nn b W).length->∀j,V (rrow (sel z W) b W (r+l)) (W+j)=0:=λ l hl j=>by unfold rrow;rw[if_neg (by omega),sl,show r+l-r=l by omega];show rd _ ((W+j:Nat):Int)=_;rw[ZbN (by rw[(hbr l (by rw[Zcw];exact hl)).1];omega),ZbV]
 rw[<-hr];have hN:Sub m (W+r) (λ x=>Bs (λ i=>x i+(-1)*cmb (gen z (nn z W)) (λ k=>x (W+k)) r i)):=by
  refine⟨hb.sub.alike _ _ hb.sub.zero λ i _=>ZaG (by rw[Zg3 r λ k _=>rfl];rfl),λ x y h1 h2 c=>hb.sub.alike _ _ (hb.sub.lin _ _ h1 h2 c) λ i _=>ZaG ?_,λ x y h1 h2=>hb.sub.alike _ _ h1 λ i hi=>?_⟩
  ·show x i + -1*_+c*(y i + -1*_)=x i+c*y i + -1*cmb (gen z (nn z W)) (λ k=>x (W+k)+c*y (W+k)) r i;rw[Zcg,Int.mul_add c,Int.mul_add (-1),Int.mul_left_comm c (-1)];omega
  ·
   have k1:=h2 i (by omega);have k2:=ZcT (m:=m) (G:=gen z (nn z W)) (c:=λ k=>x (W+k)) (e:=λ k=>y (W+k)) i r λ j hj=>h2 (W+j) (by omega)
   have:=Int.dvd_sub k1 k2;rwa[show ∀a b c d:Int,a-b-(c-d)=a + -1*c-(b + -1*d)from λ a b c d=>by omega]at this
 constructor
 ·
  intro hx;refine hN.all (λ g hg=>?_) hx;obtain⟨i,hi,rfl⟩:=hg
  by_cases h:i<r
  ·
   refine hb.sub.alike _ _ hb.sub.zero λ k hk=>ZaG ?_
   show 0=V (rrow (sel z W) b W i) k + -1*cmb (gen z (nn z W)) (λ j=>V (rrow (sel z W) b W i) (W+j)) r k;rw[ZjF (j:=i) r λ j hj=>by rw[hlow2 i h],if_pos h,hlow i h k hk];omega
  ·
   obtain⟨l,rfl⟩:∃l,i=r+l:=⟨i-r,by omega⟩
   have hl:l<(nn b W).length:=by omega
   obtain⟨a1,a2⟩:=nn_at hl;refine hb.sub.alike _ _ (hb.own _ a1 a2) λ k hk=>ZaG ?_
   show gen b (nn b W) l k=V (rrow (sel z W) b W (r+l)) k + -1*cmb (gen z (nn z W)) (λ j=>V (rrow (sel z W) b W (r+l)) (W+j)) r k;rw[Zg3 r λ j hj=>hhi2 l hl j,hhi l hl k hk];omega
 ·
  intro hx;obtain⟨e,he⟩:=(Zdq m2 m12 hb _).1 hx;have own:∀i,i<r+(nn b W).length->Sp m (W+r) (Gn (rrow (sel z W) b W) (r+(nn b W).length)) (V (rrow (sel z W) b W i)):=λ i hi=>.gen ⟨i,hi,rfl⟩
  have s1:=Sub.cmb (Sp.sub (m:=m) (W:=W+r) (G:=Gn (rrow (sel z W) b W) (r+(nn b W).length))) (G:=λ k=>V (rrow (sel z W) b W k)) (c:=λ k=>x (W+k)) r λ k hk=>own k (by omega)
  have s2:=Sub.cmb (Sp.sub (m:=m) (W:=W+r) (G:=Gn (rrow (sel z W) b W) (r+(nn b W).length))) (G:=λ l=>V (rrow (sel z W) b W (r+l))) (c:=e) (nn b W).length λ l hl=>own (r+l) (by omega)
  refine .alike (s1.plus s2) λ i hi=>?_
  by_cases h:i<W
  ·
   have k1:=ZjE (G:=λ k=>V (rrow (sel z W) b W k)) (G':=gen z (nn z W)) (c:=λ k=>x (W+k)) (i:=i) (i':=i) r λ k hk=>hlow k hk i h
   have k2:=ZjE (G:=λ l=>V (rrow (sel z W) b W (r+l))) (G':=gen b (nn b W)) (c:=e) (i:=i) (i':=i) (nn b W).length λ l hl=>hhi l hl i h
   rw[k1,k2];have:=he i h;rwa[show ∀a b c:Int,a-(b + -1*c)=c+a-b from λ a b c=>by omega]at this
  ·
   obtain⟨j,rfl⟩:∃j,i=W+j:=⟨i-W,by omega⟩
   have k1:=ZhV (G:=λ k=>V (rrow (sel z W) b W k)) (c:=λ k=>x (W+k)) (j:=j) (i:=W+j) r λ k hk=>by
    show V (rrow (sel z W) b W k) (W+j)=_;rw[hlow2 k hk]
    by_cases e2:j=k
    ·rw[if_pos e2,if_pos e2.symm]
    ·rw[if_neg e2,if_neg (Ne.symm e2)]
   have k2:=ZjE (G:=λ l=>V (rrow (sel z W) b W (r+l))) (G':=λ _ _=>0) (c:=e) (i:=W+j) (i':=0) (nn b W).length λ l hl=>hhi2 l hl j
   have k3:∀n,cmb (λ _ _=>0) e n 0=0:=by
    intro n
    induction n with
    | zero=>rfl
    | succ n ih=>show cmb (λ _ _=>0) e n 0+e n*0=0;rw[ih];omega
   rw[k1,k2,k3,if_pos (by omega)];exact ZaG (by omega)
theorem Zon {m:Int} {W:Nat} {S:List (List Int)} (h:Rok m W S) (hW:W<=1000) {k:Nat} (hk:k<S.length):Zad.f (row S (k:Int))=some (row S (k:Int)):=Own_ _ (by have:=(h k hk).1;omega)
theorem Rel_ {m:Int} (m2:2<=m) (m12:m<=12) {W:Nat} (hW:W<=1000) {z b:List (List Int)} {Z Bs:Vc->Prop} (hz:Lead m W z Z) (hb:Lead m W b Bs) (u:List Int) :
  ∃RL,Zf.l0 (W:Int) 0 m u b z []=(Zl.f RL ((nn z W).length:Int) m).bind (λ t130=>(Zg.f t130).bind λ t131=>some t131)/\Rok m (nn z W).length RL/\RL.length<=1000/\∀c,Mx m (nn z W).length RL c↔Bs (cmb (gen z (nn z W)) c (nn z W).length):=by
 have m0:0<m:=by omega
 have zl:=hz.tab.len;have bl:=hb.tab.len;have loop0:=up W (λ k=>Zf.l0 (W:Int) (k:Int) m u b z (sel z k)) (λ k hk=>by
  have sl:=Zcw z k;have nl:=nn_le z k;rw[Zf.l0_eq,wn (j:=k) (by omega)]
  by_cases h:row z (k:Int)=[]
  ·
   have e0:¬ ((row z (k:Int)).length:Int)>0:=by rw[h];simp
   rw[Zmh h]
   ((with_reducible repeat (first|refine go_p ?_|refine go_n ?_|refine go_b ?_|dsimp only));first|done|(with_reducible rfl)|simp (disch:=omega) only[w64])
  ·
   have e0:((row z (k:Int)).length:Int)>0:=by have:=List.length_pos_iff.2 h;omega
   have l1:([row z (k:Int)]:List (List Int)).length=1:=rfl;rw[Zjn h]
   ((with_reducible repeat (first|refine go_p ?_|refine go_n ?_|refine go_b ?_|dsimp only));first|done|(with_reducible rfl)|simp (disch:=omega) only[w64]))
 have loop0:Zf.l0 (W:Int) 0 m u b z []=Zf.l0 (W:Int) (W:Int) m u b z (sel z W):=loop0;obtain⟨S,hS⟩:∃S,S=sel z W:=⟨_,rfl⟩
 obtain⟨r,hr⟩:∃r,r=(nn z W).length:=⟨_,rfl⟩
 have Sl:S.length=r:=by rw[hS,Zcw,hr]
 have rW:r<=W:=by rw[hr];exact nn_le z W
 have Sok:Rok m W S:=by rw[hS];exact Rok.sel hz.tab
 rw[<-hS]at loop0;have loop1:=up r (λ k=>Zf.l1 (W:Int) (k:Int) m u b S ((List.range k).map (rrow S b W))) (λ k hk=>by
  have hO:=Zon Sok hW (k:=k) (by omega);obtain⟨lk,ak⟩:=Sok k (by omega);have rl:(List.replicate r (0:Int)).length=r:=List.length_replicate;have ul:((List.replicate r (0:Int)).set k 1).length=r:=by rw[List.length_set];exact rl
  have ml:((List.range k).map (rrow S b W)).length=k:=by simp
  have hrr:rrow S b W k=row S (k:Int)++(List.replicate r 0).set k 1:=by unfold rrow;rw[if_pos (by omega),Sl];rfl
  have l1:([row S (k:Int)++(List.replicate r 0).set k 1]:List (List Int)).length=1:=rfl;have e1:(r:Int)=(r:Int):=rfl;rw[Zf.l1_eq,wn (j:=k) (by omega),List.range_succ,List.map_append,List.map_singleton,hrr,Sl,Int.toNat_natCast,Int.toNat_natCast]
  ((with_reducible repeat (first|refine go_p ?_|refine go_n ?_|refine go_b ?_|dsimp only));first|done|(with_reducible rfl)|simp (disch:=omega) only[w64]))
 have loop1:Zf.l1 (W:Int) 0 m u b S []=Zf.l1 (W:Int) (r:Int) m u b S ((List.range r).map (rrow S b W)):=loop1;have loop2:=up W (λ k=>Zf.l2 (W:Int) (k:Int) m u b S ((List.range r).map (rrow S b W)++(sel b k).map λ x=>x++List.replicate r 0)) (λ k hk=>by
  have sl:=Zcw b k;have nl:=nn_le b k;have rl:(List.replicate r (0:Int)).length=r:=List.length_replicate;have ml:((List.range r).map (rrow S b W)++(sel b k).map λ x=>x++List.replicate r 0).length=r+(nn b k).length:=by rw[List.length_append,List.length_map,List.length_map,List.length_range,sl]
  rw[Zf.l2_eq,wn (j:=k) (by omega)]
  by_cases h:row b (k:Int)=[]
  ·
   have e0:¬ ((row b (k:Int)).length:Int)>0:=by rw[h];simp
   rw[Zmh h]
   ((with_reducible repeat (first|refine go_p ?_|refine go_n ?_|refine go_b ?_|dsimp only));first|done|(with_reducible rfl)|simp (disch:=omega) only[w64])
  ·
   have hP:=hb.tab.prow hk h;have pl:=hP.len;have e0:((row b (k:Int)).length:Int)>0:=by have:=List.length_pos_iff.2 h;omega
   have hO:=Own_ (row b (k:Int)) (by omega);have l1:([row b (k:Int)++List.replicate r 0]:List (List Int)).length=1:=rfl;rw[Zjn h,List.map_append,List.map_singleton,Sl,Int.toNat_natCast,<-List.append_assoc]
   ((with_reducible repeat (first|refine go_p ?_|refine go_n ?_|refine go_b ?_|dsimp only));first|done|(with_reducible rfl)|simp (disch:=omega) only[w64]))
 have loop2:Zf.l2 (W:Int) 0 m u b S ((List.range r).map (rrow S b W)++[])=Zf.l2 (W:Int) (W:Int) m u b S ((List.range r).map (rrow S b W)++(sel b W).map λ x=>x++List.replicate r 0):=loop2;obtain⟨X,hX⟩:∃X,X=(List.range r).map (rrow S b W)++(sel b W).map λ x=>x++List.replicate r 0:=⟨_,rfl⟩
 have bn:=nn_le b W;have Xl:X.length=r+(nn b W).length:=by rw[hX,List.length_append,List.length_map,List.length_map,List.length_range,Zcw]
 have Xrow:∀i:Nat,i<X.length->row X (i:Int)=rrow S b W i:=λ i hi=>by
  by_cases h:i<r
  ·rw[Zbz hi];simp only[hX];rw[List.getElem_append_left (by simpa using h)];simp
  ·
   have hrr:rrow S b W i=row (sel b W) ((i-r:Nat):Int)++List.replicate r 0:=by unfold rrow;rw[if_neg (by omega),Sl]
   rw[hrr,Zbz hi,Zbz (by rw[Zcw];omega)]
   simp only[hX];rw[List.getElem_append_right (by simp;omega)];simp
 have Xok:∀i:Nat,i<X.length->(row X (i:Int)).length=W+r/\AllIn m (row X (i:Int)):=λ i hi=>by
  rw[Xrow i hi];unfold rrow
  by_cases h:i<S.length
  ·rw[if_pos h];obtain⟨a1,a2⟩:=Sok i h;exact⟨by rw[List.length_append,a1,ZcH,Sl],a2.append (ZfC m2 _ _)⟩
  ·rw[if_neg h];obtain⟨a1,a2⟩:=Rok.sel hb.tab (i-S.length) (by rw[Zcw];omega);exact⟨by rw[List.length_append,a1,List.length_replicate,Sl],a2.append (ZhG m0 _)⟩
 obtain⟨p,p1,p2⟩:=Zju (W:=W+r) m2 m12 (by omega) (X:=X) (by omega) Xok;have p3:=p2.lead m0;have pM:∀x,Sp m (W+r) (Gn (λ i=>row X (i:Int)) X.length) x↔Bs (λ i=>x i+(-1)*cmb (gen z (nn z W)) (λ k=>x (W+k)) r i):=λ x=>by
  have e:Gn (λ i=>row X (i:Int)) X.length=Gn (rrow (sel z W) b W) ((nn z W).length+(nn b W).length):=by
   funext v
   rw[<-hS,<-hr,<-Xl];refine propext ⟨λ⟨i,hi,e⟩=>⟨i,hi,by rw[e];congr 1;exact Xrow i hi⟩,λ⟨i,hi,e⟩=>⟨i,hi,by rw[e];congr 1;exact(Xrow i hi).symm⟩⟩
  rw[e,hr];exact Zm7 m2 m12 hz hb x
 have q1:=ZcM (A:=W) (B:=r) m0 p3;obtain⟨Q,hQ⟩:∃Q,Q=ZcC p W r:=⟨_,rfl⟩
 rw[<-hQ]at q1;have qrow:∀k:Nat,k<r->row Q (k:Int)=(row p ((W+k:Nat):Int)).drop W:=λ k hk=>by rw[hQ];exact Zfq hk
 have pl:=p3.tab.len;have loop3:=up r (λ k=>Zf.l3 (W:Int) ((W+k:Nat):Int) m u S p (sel Q k)) (λ k hk=>by
  have sl:=Zcw Q k;have nl:=nn_le Q k;have hq:=qrow k hk;rw[show W+(k+1)=W+k+1 from rfl,Zf.l3_eq,wn (j:=W+k) (by omega)]
  by_cases h:row p ((W+k:Nat):Int)=[]
  ·
   have e0:¬ ((row p ((W+k:Nat):Int)).length:Int)>0:=by rw[h];simp
   rw[Zmh (p:=Q) (W:=k) (by rw[hq,h];simp)]
   ((with_reducible repeat (first|refine go_p ?_|refine go_n ?_|refine go_b ?_|dsimp only));first|done|(with_reducible rfl)|simp (disch:=omega) only[w64])
  ·
   have hP:=p3.tab.prow (show W+k<W+r by omega) h;have pl':=hP.len;have e0:((row p ((W+k:Nat):Int)).length:Int)>0:=by omega
   have hd:((row p ((W+k:Nat):Int)).drop W).length=r:=by rw[List.length_drop,pl'];omega
   have hO:=Own_ ((row p ((W+k:Nat):Int)).drop W) (by omega);have l1:([(row p ((W+k:Nat):Int)).drop W]:List (List Int)).length=1:=rfl;rw[Zjn (p:=Q) (W:=k) (λ e=>by rw[hq]at e;rw[e]at hd;simp at hd;omega),hq,Int.toNat_natCast]
   ((with_reducible repeat (first|refine go_p ?_|refine go_n ?_|refine go_b ?_|dsimp only));first|done|(with_reducible rfl)|simp (disch:=omega) only[w64]))
 have loop3:Zf.l3 (W:Int) (W:Int) m u S p []=Zf.l3 (W:Int) ((W+r:Nat):Int) m u S p (sel Q r):=loop3;have w:wrapI ((W:Int)+(r:Int))=((W+r:Nat):Int):=by rw[w64 (by omega) (by omega)];omega
 have rok:=Rok.sel q1.tab;refine⟨sel Q r,?_,by rw[<-hr];exact rok,by rw[Zcw];have:=nn_le Q r;omega,λ c=>?_⟩
 ·
  have f0:Zf.l0 (W:Int) (W:Int) m u b z S=Zf.l1 (W:Int) 0 m u b S []:=by rw[Zf.l0_eq];((with_reducible repeat (first|refine go_p ?_|refine go_n ?_|refine go_b ?_|dsimp only));first|done|(with_reducible rfl)|simp (disch:=omega) only[w64])
  have f1:Zf.l1 (W:Int) (r:Int) m u b S ((List.range r).map (rrow S b W))=Zf.l2 (W:Int) 0 m u b S ((List.range r).map (rrow S b W)):=by rw[Zf.l1_eq,Sl];((with_reducible repeat (first|refine go_p ?_|refine go_n ?_|refine go_b ?_|dsimp only));first|done|(with_reducible rfl)|simp (disch:=omega) only[w64])
  have f2:Zf.l2 (W:Int) (W:Int) m u b S X=Zf.l3 (W:Int) (W:Int) m u S p []:=by
   rw[Zf.l2_eq,Sl,w]
   (with_reducible repeat (first|refine go_p ?_|refine go_n ?_|refine go_b ?_|dsimp only))
   all_goals rfl
  rw[List.append_nil]at loop2;rw[loop0,f0,loop1,f1,loop2,<-hX,f2,loop3,Zf.l3_eq,Sl,<-hr]
  (with_reducible repeat (first|refine go_p ?_|refine go_n ?_|refine go_b ?_|dsimp only))
  all_goals rfl
 ·
  rw[<-hr,Zo8 m2 m12 q1,pM];have e1:(λ k=>pad W c (W+k))=c:=funext λ k=>by unfold pad;rw[if_neg (by omega),show W+k-W=k by omega]
  rw[e1]
  constructor
  ·
   intro h;refine hb.sub.alike _ _ (hb.sub.lin _ _ hb.sub.zero h (-1)) λ i hi=>ZaG ?_
   show 0 + -1*(pad W c i + -1*cmb (gen z (nn z W)) c r i)=_;unfold pad;rw[if_pos hi];omega
  ·
   intro h;refine hb.sub.alike _ _ (hb.sub.lin _ _ hb.sub.zero h (-1)) λ i hi=>ZaG ?_
   show 0 + -1*cmb (gen z (nn z W)) c r i=pad W c i + -1*cmb (gen z (nn z W)) c r i;unfold pad;rw[if_pos hi]
structure InvOf (m:Int) (W:Nat) (Z Bs:Vc->Prop) (L:List Int):Prop where
 chn:Chn m L
 dia:∃(p:List (List Int)) (ns:List Int),Lead m W p Z/\(∀n∈ns,0<n/\n∣m)/\ns.length=(nn p W).length/\(∀t∈qs,cq t.1 L=cq t.1 ns)/\L.length<=ns.length/\Dg m (nn p W).length (λ c=>Bs (cmb (gen p (nn p W)) c (nn p W).length)) ns
theorem ZfJ {g:List (List Int)} (hg:Grp g) {m:Int} {u:List Int} (hm:Mdl g m u) {n:Nat} (hn:n<=3) (hr:nB g n<=49):∃L,Zf.f g m u (n:Int)=some L/\InvOf m (nB g n) (coM g m u n) (Sp m (nB g n) (bdG g m u n)) L:=by
 have m2:=hm.m2;have m12:=hm.m12
 obtain⟨b,z,h1,h2,h3⟩:=Both_ hg hm hn;have hc:=ZfI hg (d:=(n:Int)) (by omega) (by omega);rw[<-(nA_bd hg (e:=n) (by omega)).2]at hc;obtain⟨RL,k1,k2,k3,k4⟩:=Rel_ m2 m12 (by omega) h3 h2 u;have rl:=nn_le z (nB g n);obtain⟨ns,n1,n2,n3,n4⟩:=ZnR m2 m12 (nn z (nB g n)).length RL [] (by omega) k2 (by omega) (by rw[List.length_nil];omega);obtain⟨L,l1,l2,l3,l4⟩:=ZoK m2 m12 n3 (by omega);refine⟨L,?_,l2,z,ns,h3,n3,n2,l3,l4,?_⟩
 ·
  rw[Zf.f_eq,h1];show(ZP.f g (n:Int)).bind _=_;rw[hc];show Zf.l0 _ _ _ _ _ _ _=_;rw[k1,Zl.f_eq,n1,List.nil_append];show(Zg.f ns).bind _=_;rw[l1]
  rfl
 ·exact n4.eqd (.of λ c=>(k4 c).symm)
end Go.Proofs.YtdamfbighdkcbaaGreat.V
set_option maxHeartbeats 4000000
namespace Go.Proofs.YtdamfbighdkcbaaGreat.V
open Go.RowKit Go.Proofs.YtdamfbighdkcbaaGreat.D Go.Proofs.YtdamfbighdkcbaaGreat.P
theorem ZfF (a b:Int):wrapI (wrapI a*b)=wrapI (a*b):=by
 have e:∀x:Int,wrapI x=wrap64 x:=λ x=>ZcW _
 rw[e,e,e];obtain⟨q,hq⟩:∃q:Int,wrap64 a=a+18446744073709551616*q:=⟨-((a+9223372036854775808) / 18446744073709551616),by have:=Int.mul_ediv_add_emod (a+9223372036854775808) 18446744073709551616;unfold wrap64;rw[Int.mul_neg];omega⟩
 rw[hq,Int.add_mul,Int.mul_assoc];unfold wrap64;rw[show a*b+18446744073709551616*(q*b)+9223372036854775808=a*b+9223372036854775808+18446744073709551616*(q*b)by omega,Int.add_mul_emod_self_left]
theorem Zdf {α:Type} (f g:α->Nat):∀l:List α,prodN (l.map f)*prodN (l.map g)=prodN (l.map λ x=>f x*g x)
 | []=>rfl
 | x :: l=>by simp only[List.map_cons,prodN];rw[<-Zdf f g l,Nat.mul_mul_mul_comm]
theorem Zd7 {α:Type} {f:α->Nat} {c:Nat}:∀l:List α,(∀x∈l,f x=c)->prodN (l.map f)=c ^ l.length
 | [],_=>rfl
 | x :: l,h=>by simp only[List.map_cons,prodN];rw[Zd7 l λ y hy=>h y (List.mem_cons_of_mem _ hy),h x List.mem_cons_self,List.length_cons,Nat.pow_succ,Nat.mul_comm]
theorem Zd6 {α:Type} {f g:α->Nat}:∀l:List α,(∀x∈l,f x=g x)->prodN (l.map f)=prodN (l.map g)
 | [],_=>rfl
 | x :: l,h=>by simp only[List.map_cons,prodN];rw[Zd6 l λ y hy=>h y (List.mem_cons_of_mem _ hy),h x List.mem_cons_self]
def evN:Nat->Nat->Nat->Nat
 | 0,_,_=>0
 | f+1,p,A=>if A%p=0 then evN f p (A / p)+1 else 0
theorem expo_ {p:Nat} (p2:2<=p) (p11:p<=11):∀(f A k:Nat),1<=A->A<2 ^ f->A<=100000->k+f<=100000->Zax.l0 (p:Int) (A:Int) (k:Int)=some ((k+evN f p A:Nat):Int):=by
 intro f
 induction f with
 | zero=>intro A k h1 h2;simp at h2;omega
 | succ f ih =>
  intro A k h1 h2 h3 h4;have hm:(A:Int)%(p:Int)=((A%p:Nat):Int):=(Int.natCast_emod A p).symm;have hd:(A:Int) / (p:Int)=((A / p:Nat):Int):=(Int.natCast_ediv A p).symm;rw[Zax.l0_eq,if_neg (by omega),Zcc (by omega),hm]
  by_cases q:A%p=0
  ·
   have hdm:=Nat.div_add_mod A p;have hpos:1<=A / p:=by
    rcases Nat.eq_zero_or_pos (A / p)with w|w
    ·rw[w,q]at hdm;omega
    ·exact w
   have hlt:A / p<2 ^ f:=by rw[Nat.pow_succ]at h2;exact Nat.div_lt_of_lt_mul (Nat.lt_of_lt_of_le h2 (by rw[Nat.mul_comm];exact Nat.mul_le_mul_right _ p2))
   have hle:=Nat.div_le_self A p;have:=ih (A / p) (k+1) hpos hlt (by omega) (by omega);rw[if_pos (by omega),if_neg (by omega),Zdy (by omega),hd,w64 (x:=((A / p:Nat):Int)) (by omega) (by omega),wn (j:=k) (by omega),this];show _=some ((k+(if A%p=0 then evN f p (A / p)+1 else 0):Nat):Int);rw[if_pos q,show k+1+evN f p (A / p)=k+(evN f p (A / p)+1)by omega]
  ·
   rw[if_neg (by omega)];show _=some ((k+(if A%p=0 then evN f p (A / p)+1 else 0):Nat):Int);rw[if_neg q]
   rfl
def pr5:List Nat:=[2,3,5,7,11]
theorem ZoX:((List.range 13).all λ A=>decide (A=0) || (decide (prodN (pr5.map λ p=>p ^ evN 8 p A)=A) && pr5.all λ p=>decide (evN 8 p A<=8)))=true:=by decide +kernel
theorem ZlC:((List.range 13).all λ A=>(List.range 13).all λ B=>decide (A=0) || decide (B=0) || decide (¬ A%B=0) || pr5.all λ p=>decide (evN 8 p B<=evN 8 p A))=true:=by decide +kernel
theorem ev_ok {A:Nat} (h1:1<=A) (h12:A<=12):prodN (pr5.map λ p=>p ^ evN 8 p A)=A/\∀p∈pr5,evN 8 p A<=8:=by
 have h:=List.all_eq_true.1 ZoX A (List.mem_range.2 (by omega));simp only[Bool.or_eq_true,Bool.and_eq_true,decide_eq_true_eq,List.all_eq_true]at h;rcases h with h|h
 ·omega
 ·exact h
theorem ev_le {A B:Nat} (h1:1<=A) (h12:A<=12) (b1:1<=B) (b12:B<=12) (hd:B∣A):∀p∈pr5,evN 8 p B<=evN 8 p A:=by
 have h:=List.all_eq_true.1 (List.all_eq_true.1 ZlC A (List.mem_range.2 (by omega))) B (List.mem_range.2 (by omega));simp only[Bool.or_eq_true,decide_eq_true_eq,List.all_eq_true]at h;rcases h with ((h|h)|h)|h
 ·omega
 ·omega
 ·exact absurd (Nat.mod_eq_zero_of_dvd hd) h
 ·exact h
def sv (p:Nat):List Int->Nat
 | []=>0
 | n :: l=>evN 8 p n.toNat+sv p l
theorem Zjq:∀l:List Int,(∀n∈l,1<=n/\n<=12)->prI l=prodN (pr5.map λ p=>p ^ sv p l)
 | [],_=>by show 1=_;rw[Zd7 (c:=1) pr5 λ p _=>by show p ^ 0=1;rw[Nat.pow_zero],Nat.one_pow]
 | n :: l,h=>by
  have ih:=Zjq l λ x hx=>h x (List.mem_cons_of_mem _ hx)
  have hn:=h n List.mem_cons_self;have e:=(ev_ok (A:=n.toNat) (by omega) (by omega)).1;show n.toNat*prI l=_;rw[ih]
  conv=>lhs;lhs;rw[<-e]
  rw[Zdf];exact Zd6 _ λ p _=>(Nat.pow_add ..).symm
theorem sv_le {p:Nat} (hp:p∈pr5):∀(a b:List Int),b.length=a.length->(∀i:Nat,i<a.length->1<=rd a (i:Int)/\rd a (i:Int)<=12/\1<=rd b (i:Int)/\rd b (i:Int)<=12/\rd b (i:Int)∣rd a (i:Int))->sv p b<=sv p a
 | [],[],_,_=>Nat.le_refl _
 | x :: a,y :: b,hl,h=>by
  have s:∀(z:Int) (l:List Int) (i:Nat),rd (z :: l) ((i+1:Nat):Int)=rd l (i:Int):=λ z l i=>by rw[Zcu,Zcu];rfl
  have ih:=sv_le hp a b (by simpa using hl) λ i hi=>by
   have:=h (i+1) (by rw[List.length_cons];omega)
   rwa[s,s]at this
  obtain⟨a1,a2,a3,a4,a5⟩:=h 0 (by rw[List.length_cons];omega)
  have a1:1<=x:=a1;have a2:x<=12:=a2;have a3:1<=y:=a3;have a4:y<=12:=a4;have a5:y∣x:=a5;have:=ev_le (A:=x.toNat) (B:=y.toNat) (by omega) (by omega) (by omega) (by omega) (by
   have e:(y.toNat:Int)∣(x.toNat:Int):=by rw[Int.toNat_of_nonneg (by omega),Int.toNat_of_nonneg (by omega)];exact a5
   exact Int.natCast_dvd_natCast.1 e) p hp
  show evN 8 p y.toNat+sv p b<=evN 8 p x.toNat+sv p a;omega
 | [],_ :: _,hl,_=>by simp at hl
 | _ :: _,[],hl,_=>by simp at hl
theorem Zms {p:Nat} {l:List Int} {k:Nat} (h:k<l.length):sv p (l.take (k+1))=sv p (l.take k)+evN 8 p (rd l (k:Int)).toNat:=by
 have app:∀(a b:List Int),sv p (a++b)=sv p a+sv p b:=λ a b=>by
  induction a with
  | nil=>show _=0+_;rw[Nat.zero_add];rfl
  | cons x a ih=>show evN 8 p x.toNat+sv p (a++b)=evN 8 p x.toNat+sv p a+sv p b;rw[ih];omega
 rw[List.take_add_one,List.getElem?_eq_getElem h,<-rd_get h,app]
 rfl
theorem sv_bd {p:Nat} (hp:p∈pr5):∀(l:List Int),(∀n∈l,1<=n/\n<=12)->sv p l<=8*l.length
 | [],_=>Nat.zero_le _
 | n :: l,h=>by
  have hn:=h n List.mem_cons_self;have:=(ev_ok (A:=n.toNat) (by omega) (by omega)).2 p hp;have ih:=sv_bd hp l λ x hx=>h x (List.mem_cons_of_mem _ hx)
  show evN 8 p n.toNat+sv p l<=8*(l.length+1);omega
theorem Zj1 {l:List Int} {n:Int} (h:n∈l):∃i:Int,0<=i/\i<l.length/\rd l i=n:=by obtain⟨i,hi,rfl⟩:=List.mem_iff_getElem.1 h;exact⟨(i:Int),by omega,by omega,rd_get hi⟩
theorem ZoD {m m' : Int} {p p' : List (List Int)} {a b:List Int} (al:a.length<=1000) (bl:b.length=a.length) (hab:∀i:Nat,i<a.length->1<=rd a (i:Int)/\rd a (i:Int)<=12/\1<=rd b (i:Int)/\rd b (i:Int)<=12/\rd b (i:Int)∣rd a (i:Int))
  (h1:ZK.f m p=some (a,m,p)) (h2:ZK.f m' p'=some (b,m', p')):Zn.f m p m' p'=some (wrapI ((prodN (pr5.map λ q=>q ^ (sv q a-sv q b)):Nat):Int),m,p,m', p'):=by
 have lp:([2,3,5,7,11]:List Int).length=5:=rfl;have mem_a:∀n∈a,1<=n/\n<=12:=λ n hn=>by obtain⟨i,i0,i1,rfl⟩:=Zj1 hn;obtain⟨k,rfl⟩:=Int.eq_ofNat_of_zero_le i0;have:=hab k (by omega);omega
 have mem_b:∀n∈b,1<=n/\n<=12:=λ n hn=>by obtain⟨i,i0,i1,rfl⟩:=Zj1 hn;obtain⟨k,rfl⟩:=Int.eq_ofNat_of_zero_le i0;have:=hab k (by omega);omega
 have prs_rd:∀k:Nat,k<5->rd ([2,3,5,7,11]:List Int) (k:Int)=((pr5.getD k 0:Nat):Int)/\pr5.getD k 0∈pr5/\2<=pr5.getD k 0/\pr5.getD k 0<=11:=λ k hk=>by
  have:k=0\/k=1\/k=2\/k=3\/k=4:=by omega
  rcases this with rfl|rfl|rfl|rfl|rfl<;>exact⟨rfl,by decide,by decide,by decide⟩
 have main:=up 5 (λ k=>Zn.l0 (wrapI ((prodN ((pr5.take k).map λ q=>q ^ (sv q a-sv q b)):Nat):Int)) 5 (k:Int) m m' p p' a b [2,3,5,7,11]) (λ k hk=>by
  obtain⟨r1,r2,r3,r4⟩:=prs_rd k hk;have e:prodN ((pr5.take (k+1)).map λ q=>q ^ (sv q a-sv q b))=prodN ((pr5.take k).map λ q=>q ^ (sv q a-sv q b))*(pr5.getD k 0) ^ (sv (pr5.getD k 0) a-sv (pr5.getD k 0) b):=by
   have app:∀(l l' : List Nat),prodN (l++l')=prodN l*prodN l':=λ l l'=>by
    induction l with
    | nil=>show _=1*_;rw[Nat.one_mul];rfl
    | cons x l ih=>show x*prodN (l++l')=x*prodN l*prodN l';rw[ih,Nat.mul_assoc]
   have l5:pr5.length=5:=rfl;rw[List.take_add_one,List.getD_eq_getElem?_getD,List.getElem?_eq_getElem (show k<pr5.length by omega),List.map_append,app];show _*(_*1)=_;rw[Nat.mul_one]
   rfl
  obtain⟨P,hP⟩:∃P,P=pr5.getD k 0:=⟨_,rfl⟩
  rw[<-hP]at r1 r2 r3 r4 e;obtain⟨Q,hQ⟩:∃Q,Q=prodN ((pr5.take k).map λ q=>q ^ (sv q a-sv q b)):=⟨_,rfl⟩
  rw[<-hQ]at e;rw[e,<-hQ];have expo:∀n:Int,1<=n->n<=12->Zax.f (P:Int) n=some ((evN 8 P n.toNat:Nat):Int):=λ n n1 n2=>by have:=expo_ r3 r4 8 n.toNat 0 (by omega) (by omega) (by omega) (by omega);rw[Int.toNat_of_nonneg (by omega),Nat.zero_add]at this;rw[Zax.f_eq];exact this
  have sum:=up a.length (λ i=>Zn.l1 (wrapI (Q:Int)) (P:Int) ((sv P (a.take i):Nat)-(sv P (b.take i):Nat):Int) 5 (k:Int) (a.length:Int) (i:Int) m m' p p' a b [2,3,5,7,11]) (λ i hi=>by
   obtain⟨a1,a2,a3,a4,_⟩:=hab i hi;have x1:=expo _ a1 a2;have x2:=expo _ a3 a4;have s1:=Zms (p:=P) (l:=a) (k:=i) hi;have s2:=Zms (p:=P) (l:=b) (k:=i) (by omega);have b1:=sv_bd r2 (a.take (i+1)) λ n hn=>mem_a n (List.mem_of_mem_take hn)
   have b2:=sv_bd r2 (b.take (i+1)) λ n hn=>mem_b n (List.mem_of_mem_take hn)
   rw[List.length_take]at b1 b2;have hw:wrapI (((sv P (a.take i):Nat)-(sv P (b.take i):Nat):Int)+wrapI (((evN 8 P (rd a (i:Int)).toNat:Nat):Int)-((evN 8 P (rd b (i:Int)).toNat:Nat):Int)))=((sv P (a.take (i+1)):Nat)-(sv P (b.take (i+1)):Nat):Int):=by rw[w64 (x:=((evN 8 P (rd a (i:Int)).toNat:Nat):Int)-((evN 8 P (rd b (i:Int)).toNat:Nat):Int)) (by omega) (by omega),w64 (by omega) (by omega)];omega
   rw[Zn.l1_eq,wn (j:=i) (by omega),x1,Option.bind_some,x2,Option.bind_some,hw]
   ((with_reducible repeat (first|refine go_p ?_|refine go_n ?_|refine go_b ?_|dsimp only));first|done|(with_reducible rfl)|simp (disch:=omega) only[w64]))
  rw[List.take_length,<-bl,List.take_length,bl]at sum;have sum:Zn.l1 (wrapI (Q:Int)) (P:Int) 0 5 (k:Int) (a.length:Int) 0 m m' p p' a b [2,3,5,7,11]=_:=sum;have le:=sv_le r2 a b bl hab;have ba:=sv_bd r2 a mem_a;obtain⟨E,hE⟩:∃E,E=sv P a-sv P b:=⟨_,rfl⟩
  have hE' : ((sv P a:Nat)-(sv P b:Nat):Int)=(E:Int):=by omega
  rw[hE']at sum;have pw:=up E (λ j=>Zn.l2 (wrapI ((Q*P ^ j:Nat):Int)) (P:Int) 5 (k:Int) (E:Int) (j:Int) m m' p p' a b [2,3,5,7,11]) (λ j hj=>by
   have hw:wrapI (wrapI ((Q*P ^ j:Nat):Int)*(P:Int))=wrapI ((Q*P ^ (j+1):Nat):Int):=by rw[ZfF,<-Int.natCast_mul,Nat.pow_succ,<-Nat.mul_assoc]
   rw[Zn.l2_eq,wn (j:=j) (by omega),hw]
   ((with_reducible repeat (first|refine go_p ?_|refine go_n ?_|refine go_b ?_|dsimp only));first|done|(with_reducible rfl)|simp (disch:=omega) only[w64]))
  rw[Nat.pow_zero,Nat.mul_one]at pw;have pw:Zn.l2 (wrapI (Q:Int)) (P:Int) 5 (k:Int) (E:Int) 0 m m' p p' a b [2,3,5,7,11]=_:=pw;have f1:Zn.l1 (wrapI (Q:Int)) (P:Int) (E:Int) 5 (k:Int) (a.length:Int) (a.length:Int) m m' p p' a b [2,3,5,7,11]=Zn.l2 (wrapI (Q:Int)) (P:Int) 5 (k:Int) (E:Int) 0 m m' p p' a b [2,3,5,7,11]:=by
   rw[Zn.l1_eq]
   ((with_reducible repeat (first|refine go_p ?_|refine go_n ?_|refine go_b ?_|dsimp only));first|done|(with_reducible rfl)|simp (disch:=omega) only[w64])
  have f2:Zn.l2 (wrapI ((Q*P ^ E:Nat):Int)) (P:Int) 5 (k:Int) (E:Int) (E:Int) m m' p p' a b [2,3,5,7,11]=Zn.l0 (wrapI ((Q*P ^ E:Nat):Int)) 5 ((k+1:Nat):Int) m m' p p' a b [2,3,5,7,11]:=by
   rw[Zn.l2_eq,wn (j:=k) (by omega)]
   ((with_reducible repeat (first|refine go_p ?_|refine go_n ?_|refine go_b ?_|dsimp only));first|done|(with_reducible rfl)|simp (disch:=omega) only[w64])
  rw[<-hE,<-f2,<-pw,<-f1,<-sum,Zn.l0_eq,r1]
  ((with_reducible repeat (first|refine go_p ?_|refine go_n ?_|refine go_b ?_|dsimp only));first|done|(with_reducible rfl)|simp (disch:=omega) only[w64]))
 have w1:wrapI ((prodN ((pr5.take 0).map λ q=>q ^ (sv q a-sv q b)):Nat):Int)=1:=w64 (by show(-9223372036854775808:Int)<=1;omega) (by show(1:Int)<9223372036854775808;omega)
 simp only[w1]at main;have main:Zn.l0 1 5 0 m m' p p' a b [2,3,5,7,11]=Zn.l0 (wrapI ((prodN (pr5.map λ q=>q ^ (sv q a-sv q b)):Nat):Int)) 5 ((5:Nat):Int) m m' p p' a b [2,3,5,7,11]:=main;rw[Zn.f_eq,h1,Option.bind_some,h2,Option.bind_some];dsimp only;rw[lp];refine Eq.trans main ?_;rw[Zn.l0_eq,if_neg (by omega)]
theorem Zpc:((List.range 13).all λ A=>decide (A=0) || decide (prodN (qs.map λ t=>if A%t.1=0 then t.2.1 else 1)=A))=true:=by decide +kernel
theorem Zl5:∀l:List Int,(∀n∈l,0<n/\n<=12)->prI l=prodN (qs.map λ t=>t.2.1 ^ cq t.1 l)
 | [],_=>by show 1=_;rw[Zd7 (c:=1) qs λ t _=>by show t.2.1 ^ 0=1;rw[Nat.pow_zero],Nat.one_pow]
 | n :: l,h=>by
  have ih:=Zl5 l λ x hx=>h x (List.mem_cons_of_mem _ hx)
  have hn:=h n List.mem_cons_self;have e:prodN (qs.map λ t=>if n.toNat%t.1=0 then t.2.1 else 1)=n.toNat:=by
   have h:=List.all_eq_true.1 Zpc n.toNat (List.mem_range.2 (by omega));simp only[Bool.or_eq_true,decide_eq_true_eq]at h;rcases h with h|h
   ·omega
   ·exact h
  show n.toNat*prI l=_;rw[ih]
  conv=>lhs;lhs;rw[<-e]
  rw[Zdf];refine Zd6 _ λ t _=>?_
  rw[ZcI];have hm:n%(t.1:Int)=0↔n.toNat%t.1=0:=by
   have e:n%(t.1:Int)=((n.toNat%t.1:Nat):Int):=by rw[Int.natCast_emod,Int.toNat_of_nonneg (by omega)]
   rw[e];omega
  by_cases q:n.toNat%t.1=0
  ·rw[if_pos q,if_pos (hm.2 q),Nat.pow_add,Nat.pow_one,Nat.mul_comm]
  ·rw[if_neg q,if_neg (λ k=>q (hm.1 k)),Nat.one_mul,Nat.add_zero]
theorem ct_pos' {m:Int} (m2:2<=m) (m12:m<=12) {W:Nat} {p:List (List Int)} {M:Vc->Prop} (h:Lead m W p M):0<ct m W M:=by
 have e:=ZiQ m2 m12 h;have:0<m.toNat ^ W:=Nat.pow_pos (by omega);rcases Nat.eq_zero_or_pos (ct m W M)with z|z
 ·rw[z,Nat.zero_mul]at e;omega
 ·exact z
theorem InvOf.size {m:Int} (m2:2<=m) (m12:m<=12) {W:Nat} {Z Bs:Vc->Prop} (hB:Sub m W Bs) (hBZ:∀x,Bs x->Z x) {L:List Int} (h:InvOf m W Z Bs L):prI L*ct m W Bs=ct m W Z:=by
 obtain⟨p,ns,a1,a2,a3,a4,_,a6⟩:=h.dia;have le:∀n:Int,0<n->n∣m->n<=12:=λ n h0 hd=>by have:=Int.le_of_dvd (by omega) hd;omega
 have e1:prI L=prI ns:=by
  rw[Zl5 L λ n hn=>by have:=h.chn.ent n hn;exact⟨by omega,le n (by omega) this.2⟩,Zl5 ns λ n hn=>by have:=a2 n hn;exact⟨this.1,le n this.1 this.2⟩]
  exact Zd6 _ λ t ht=>by rw[a4 t ht]
 have k1:=Zl9 (m:=m) (by omega) (G:=gen p (nn p W)) a1.sub hB (Zdq m2 m12 a1) hBZ (L:=λ c=>Bs (cmb (gen p (nn p W)) c (nn p W).length)) (λ c=>Iff.rfl) m;rw[a6 m (by omega) (Int.dvd_refl m)]at k1;have k2:=ZnC (m:=m) (by omega) ns a2;rw[a3]at k2;have hX:(λ x=>∃b z,Bs b/\Z z/\∀i,i<W->m∣b i+m*z i-x i)=Bs:=by
  funext x
  refine propext ⟨λ⟨b,z,h1,h2,h3⟩=>hB.alike _ _ h1 λ i hi=>?_,λ hx=>⟨x,λ _=>0,hx,a1.sub.zero,λ i _=>ZaG (by show x i+m*0=x i;omega)⟩⟩
  have:=Int.dvd_sub (h3 i hi) (Int.dvd_mul_right m (z i));rwa[show ∀a b c:Int,a+b-c-b=a-c from λ a b c=>by omega]at this
 rw[hX]at k1;have mp:0<m.toNat ^ (nn p W).length:=Nat.pow_pos (by omega);rw[e1];refine Nat.eq_of_mul_eq_mul_left mp ?_;rw[Nat.mul_left_comm,<-k1,<-Nat.mul_assoc,k2]
theorem ZfA {m:Int} {W:Nat} {p:List (List Int)} {j:Nat} (hj:j<W):rd (Zby m p W) (j:Int)=m / dv m p j:=by
 rw[rd_get (by simp[Zby];exact hj)]
 simp[Zby]
theorem ZfB {m:Int} (m2:2<=m) (m12:m<=12) {W:Nat} {p:List (List Int)} {M:Vc->Prop} (h:Lead m W p M):prI (Zby m p W)=ct m W M:=by
 have e:=ZiQ m2 m12 h;have k:prI (Zby m p W)*prodN (dvl m p W)=m.toNat ^ W:=by
  show prodN (((List.range W).map λ j=>m / dv m p j).map Int.toNat)*prodN ((List.range W).map λ j=>(dv m p j).toNat)=_;rw[List.map_map,Zdf,Zd7 (c:=m.toNat) _ λ j hj=>?_,List.length_range];have hj:=List.mem_range.1 hj;obtain⟨d0,d1,q,hq⟩:=dv_bd (by omega) h.tab hj;show(m / dv m p j).toNat*(dv m p j).toNat=m.toNat;have dq:m / dv m p j=q:=by have:=Int.mul_ediv_cancel_left q (show dv m p j≠0 by omega);rwa[<-hq]at this
  rw[dq];obtain⟨D,hD⟩:=Int.eq_ofNat_of_zero_le (show 0<=dv m p j by omega);have q0:0<=q:=by
   rcases Int.lt_or_le q 0 with w|w
   ·have:=Int.mul_pos d0 (show 0 < -q by omega);rw[Int.mul_neg]at this;omega
   ·exact w
  obtain⟨Q,rfl⟩:=Int.eq_ofNat_of_zero_le q0;rw[hD]at hq ⊢;rw[<-Int.natCast_mul]at hq;rw[hq,Int.toNat_natCast,Int.toNat_natCast,Int.toNat_natCast,Nat.mul_comm]
 rw[e]at k;have pos:0<prodN (dvl m p W):=by
  rcases Nat.eq_zero_or_pos (prodN (dvl m p W))with z|z
  ·rw[z,Nat.mul_zero]at e;have:0<m.toNat ^ W:=Nat.pow_pos (by omega);omega
  ·exact z
 exact Nat.eq_of_mul_eq_mul_right pos k
theorem Zpa {g:List (List Int)} (hg:Grp g) {m:Int} {u:List Int} (hm:Mdl g m u) {n:Nat} (hn:n<=3) (hr:nB g n<=49):∃(q b:List (List Int)) (L:List Int),ZaQ.f g m u (n:Int)=some (m,q)/\ZY.f g m u (n:Int)=some (m,b)/\Zf.f g m u (n:Int)=some L /\
  InvOf m (nB g n) (coM g m u n) (Sp m (nB g n) (bdG g m u n)) L/\Zn.f m q m b=some (wrapI ((prI L:Nat):Int),m,q,m,b)/\Zav.l0 1 0 L=some (wrapI ((prI L:Nat):Int)):=by
 have m2:=hm.m2;have m12:=hm.m12
 obtain⟨z,z1,z2⟩:=ZdO hg hm hn;obtain⟨b,b1,b2⟩:=ZeY hg hm hn;have b2:=b2.lead (by omega);have hBZ:∀x,Sp m (nB g n) (bdG g m u n) x->coM g m u n x:=λ x hx=>bd_co hg hm hn hx
 obtain⟨L,l1,l2⟩:=ZfJ hg hm hn hr;refine⟨z,b,L,z1,b1,l1,l2,?_,?_⟩
 ·
  have s1:=Zmo m2 m12 (by omega) z2.tab;have s2:=Zmo m2 m12 (by omega) b2.tab;have la:(Zby m z (nB g n)).length=nB g n:=by simp[Zby]
  have lb:(Zby m b (nB g n)).length=nB g n:=by simp[Zby]
  have hab:∀i:Nat,i<(Zby m z (nB g n)).length->1<=rd (Zby m z (nB g n)) (i:Int)/\rd (Zby m z (nB g n)) (i:Int)<=12/\1<=rd (Zby m b (nB g n)) (i:Int)/\rd (Zby m b (nB g n)) (i:Int)<=12/\rd (Zby m b (nB g n)) (i:Int)∣rd (Zby m z (nB g n)) (i:Int):=λ i hi=>by
   rw[la]at hi;rw[ZfA hi,ZfA hi];obtain⟨d0,d1,q,hq⟩:=dv_bd (by omega) z2.tab hi;obtain⟨e0,e1,r,hr'⟩:=dv_bd (by omega) b2.tab hi;have hd:dv m z i∣dv m b i:=by
    by_cases hb:row b (i:Int)=[]
    ·rw[show dv m b i=m from if_pos hb];exact⟨q,hq⟩
    ·rw[show dv m b i=rd (row b (i:Int)) (i:Int)from if_neg hb];have hP:=b2.tab.prow hi hb;exact z2.lead _ (hBZ _ (b2.own i hi hb)) i hi λ k hk=>by rw[show V (row b (i:Int)) k=0 from hP.zero k hk];exact Int.dvd_zero m
   have pos:∀d q:Int,0<d->m=d*q->1<=q/\q<=12:=λ d q h0 h=>by
    have q1:0<q:=by
     rcases Int.lt_or_le 0 q with w|w
     ·exact w
     ·have:=Int.mul_nonneg (show 0<=d by omega) (show 0 <= -q by omega);rw[Int.mul_neg]at this;omega
    have:=Int.le_of_dvd (show 0<m by omega) (show q∣m from⟨d,by rw[h,Int.mul_comm]⟩);omega
   have dq:m / dv m z i=q:=by have:=Int.mul_ediv_cancel_left q (show dv m z i≠0 by omega);rwa[<-hq]at this
   have dr:m / dv m b i=r:=by have:=Int.mul_ediv_cancel_left r (show dv m b i≠0 by omega);rwa[<-hr']at this
   rw[dq,dr];obtain⟨p1,p2⟩:=pos _ _ d0 hq;obtain⟨p3,p4⟩:=pos _ _ e0 hr';refine⟨p1,p2,p3,p4,?_⟩;obtain⟨s,hs⟩:=hd;refine⟨s,Int.eq_of_mul_eq_mul_left (show dv m z i≠0 by omega) ?_⟩;rw[Int.mul_comm r s,<-Int.mul_assoc,<-hs];exact hq.symm.trans hr'
  have k:=ZoD (by omega) (by omega) hab s1 s2;rw[k];have ma:∀q∈Zby m z (nB g n),1<=q/\q<=12:=λ q hn=>by obtain⟨i,i0,i1,rfl⟩:=Zj1 hn;obtain⟨k,rfl⟩:=Int.eq_ofNat_of_zero_le i0;have:=hab k (by omega);omega
  have mb:∀q∈Zby m b (nB g n),1<=q/\q<=12:=λ q hn=>by obtain⟨i,i0,i1,rfl⟩:=Zj1 hn;obtain⟨k,rfl⟩:=Int.eq_ofNat_of_zero_le i0;have:=hab k (by omega);omega
  have e:prodN (pr5.map λ q=>q ^ (sv q (Zby m z (nB g n))-sv q (Zby m b (nB g n))))=prI L:=by
   refine Nat.eq_of_mul_eq_mul_right (ct_pos' m2 m12 b2) ?_;rw[l2.size m2 m12 b2.sub hBZ,<-ZfB m2 m12 z2,<-ZfB m2 m12 b2,Zjq _ ma,Zjq _ mb,Zdf];refine Zd6 _ λ q hq=>?_
   have:=sv_le hq (Zby m z (nB g n)) (Zby m b (nB g n)) (by omega) hab;rw[<-Nat.pow_add]
   congr 1
   omega
  rw[e]
 ·
  have ll:L.length<=49:=by obtain⟨p,ns,a1,a2,a3,a4,a5,a6⟩:=l2.dia;have:=nn_le p (nB g n);omega
  have loop:=up L.length (λ i=>Zav.l0 (wrapI ((prI (L.take i):Nat):Int)) (i:Int) L) (λ i hi=>by
   have app:∀(a b:List Nat),prodN (a++b)=prodN a*prodN b:=λ a b=>by
    induction a with
    | nil=>show _=1*_;rw[Nat.one_mul];rfl
    | cons x a ih=>show x*prodN (a++b)=x*prodN a*prodN b;rw[ih,Nat.mul_assoc]
   have ent:=l2.chn.ent _ (ZbU (i:=(i:Int)) (xs:=L) (by omega) (by omega));have e:((prI (L.take (i+1)):Nat):Int)=((prI (L.take i):Nat):Int)*rd L (i:Int):=by rw[List.take_add_one,List.getElem?_eq_getElem hi,<-rd_get hi];show((prodN ((L.take i++[rd L (i:Int)]).map Int.toNat):Nat):Int)=_;rw[List.map_append,app];show((prI (L.take i)*((rd L (i:Int)).toNat*1):Nat):Int)=_;rw[Nat.mul_one,Int.natCast_mul,Int.toNat_of_nonneg (by omega)]
   rw[Zav.l0_eq,wn (j:=i) (by omega),ZfF,<-e]
   ((with_reducible repeat (first|refine go_p ?_|refine go_n ?_|refine go_b ?_|dsimp only));first|done|(with_reducible rfl)|simp (disch:=omega) only[w64]))
  have w1:wrapI ((prI (L.take 0):Nat):Int)=1:=w64 (by show(-9223372036854775808:Int)<=1;omega) (by show(1:Int)<9223372036854775808;omega)
  rw[w1,List.take_length]at loop;have loop:Zav.l0 1 0 L=_:=loop;rw[loop,Zav.l0_eq]
  ((with_reducible repeat (first|refine go_p ?_|refine go_n ?_|refine go_b ?_|dsimp only));first|done|(with_reducible rfl)|simp (disch:=omega) only[w64])
end Go.Proofs.YtdamfbighdkcbaaGreat.V
set_option maxHeartbeats 2000000
namespace Go.Proofs.YtdamfbighdkcbaaGreat.V
open Go.RowKit Go.Proofs.YtdamfbighdkcbaaGreat.D Go.Proofs.YtdamfbighdkcbaaGreat.P
theorem indexFuncI {F:Int->Option Bool} {p:Int->Bool} (xs:List Int) (hl:xs.length<=1048576) (hF:∀x∈xs,F x=some (p x)) :
  ((∀x∈xs,p x=false)/\Zk.f xs F=some (-1))\/∃i:Nat,i<xs.length/\p (rd xs i)=true/\(∀x∈xs.take i,p x=false)/\Zk.f xs F=some (i:Int):=by
 rw[Zk.f_eq]
 suffices H:∀d m:Nat,m+d=xs.length->(∀x∈xs.take m,p x=false)->((∀x∈xs,p x=false)/\Zk.l0 xs F (xs.length:Int) m=some (-1))\/∃i:Nat,i<xs.length/\p (rd xs i)=true/\(∀x∈xs.take i,p x=false)/\Zk.l0 xs F (xs.length:Int) m=some (i:Int)from
  H xs.length 0 (by omega) (by simp)
 intro d
 induction d with
 | zero =>
  intro m hd hp;obtain rfl:m=xs.length:=by omega
  rw[List.take_length]at hp;refine .inl ⟨hp,?_⟩;rw[Zk.l0_eq]
  ((with_reducible repeat (first|refine go_p ?_|refine go_n ?_|refine go_b ?_|dsimp only));first|done|(with_reducible rfl)|simp (disch:=omega) only[w64])
 | succ d ih =>
  intro m hd hp;have hf:=hF (rd xs m) (ZbU (by omega) (by omega))
  cases h:p (rd xs m)with
  | true =>
   rw[h]at hf;refine .inr ⟨m,by omega,h,hp,?_⟩;rw[Zk.l0_eq]
   ((with_reducible repeat (first|refine go_p ?_|refine go_n ?_|refine go_b ?_|dsimp only));first|done|(with_reducible rfl)|simp (disch:=omega) only[w64])
  | false =>
   rw[h]at hf;have st:Zk.l0 xs F (xs.length:Int) m=Zk.l0 xs F (xs.length:Int) ((m+1:Nat):Int):=by
    rw[Zk.l0_eq,wn (j:=m) (by omega)]
    ((with_reducible repeat (first|refine go_p ?_|refine go_n ?_|refine go_b ?_|dsimp only));first|done|(with_reducible rfl)|simp (disch:=omega) only[w64])
   rw[st];refine ih (m+1) (by omega) λ x hx=>?_
   rw[Zet (by omega)]at hx;rcases List.mem_append.1 hx with hx|hx
   ·exact hp x hx
   ·rw[List.mem_singleton.1 hx];exact h
theorem Zkw {F:Int->Option Bool} {p:Int->Bool} (xs:List Int) (hl:xs.length<=1048576) (hF:∀x∈xs,F x=some (p x)):Zt.f xs F=some (xs.filter λ x=>!p x):=by
 have hi:=indexFuncI (F:=λ z0=>(F z0).map λ z=>z) (p:=p) xs hl (λ x hx=>by show Option.map _ (F x)=_;rw[hF x hx];rfl)
 rw[Zt.f_eq];rcases hi with ⟨h,e⟩|⟨i,i1,hpi,hp,e⟩
 ·rw[e,Option.bind_some,if_pos rfl,List.filter_eq_self.2 λ x hx=>by rw[h x hx];rfl]
 rw[e,Option.bind_some,if_neg (by omega),wn (j:=i) (by omega)];have fil:∀m:Nat,(xs.take m).filter (λ x=>!p x)=(xs.take m).filter (λ x=>!p x):=λ _=>rfl
 have H:∀d m:Nat,m+d=xs.length->∀(k:Nat) (r:List Int),k<m->r.length=xs.length->r.take k=(xs.take m).filter (λ x=>!p x)->r.drop m=xs.drop m->Zt.l0 F (k:Int) (m:Int) r=some (xs.filter λ x=>!p x):=by
  intro d
  induction d with
  | zero =>
   intro m hd k r hk hr h1 _;obtain rfl:m=xs.length:=by omega
   rw[List.take_length]at h1;have l1:(r.take k++List.replicate (r.length-k) 0).length=xs.length:=by rw[List.length_append,List.length_take,List.length_replicate];omega
   have e2:(r.take k++List.replicate (r.length-k) 0).take k=r.take k:=by rw[List.take_append_of_le_length (by rw[List.length_take];omega),List.take_take,Nat.min_self]
   rw[Zt.l0_eq,Int.toNat_natCast,l1,e2,<-h1]
   ((with_reducible repeat (first|refine go_p ?_|refine go_n ?_|refine go_b ?_|dsimp only));first|done|(with_reducible rfl)|simp (disch:=omega) only[w64])
  | succ d ih =>
   intro m hd k r hk hr h1 h2;have hrx:rd r (m:Int)=rd xs (m:Int):=by
    have hm1:m<r.length:=by omega
    have hm2:m<xs.length:=by omega
    have:=congrArg List.head? h2;rw[Zg7 hm1,Zg7 hm2]at this
    simpa using this
   have hd2:r.drop (m+1)=xs.drop (m+1):=by
    have hm1:m<r.length:=by omega
    have hm2:m<xs.length:=by omega
    have:=congrArg List.tail h2;rw[Zg7 hm1,Zg7 hm2]at this
    simpa using this
   have hf:=hF (rd xs m) (ZbU (by omega) (by omega));have tk:=Zet (xs:=xs) (m:=m) (by omega);rw[Zt.l0_eq,hrx,hf,Option.bind_some,wn (j:=m) (by omega),wn (j:=k) (by omega),Int.toNat_natCast]
   cases h:p (rd xs m)with
   | true =>
    have:=ih (m+1) (by omega) k r (by omega) hr (by rw[tk,List.filter_append,h1];simp[h]) hd2
    (with_reducible repeat (first|refine go_p ?_|refine go_n ?_|refine go_b ?_|dsimp only))
    exact this
   | false =>
    have:=ih (m+1) (by omega) (k+1) (r.set k (rd xs m)) (by omega) (by rw[List.length_set,hr]) (by
     rw[tk,List.filter_append,<-h1,List.take_succ_eq_append_getElem (by rw[List.length_set];omega),List.getElem_set_self,List.take_set_of_le (Nat.le_refl _)]
     simp[h]) (by rw[List.drop_set_of_lt (by omega)];exact hd2)
    (with_reducible repeat (first|refine go_p ?_|refine go_n ?_|refine go_b ?_|dsimp only))
    exact this
 refine H (xs.length-(i+1)) (i+1) (by omega) i xs (by omega) rfl ?_ rfl;rw[Zet i1,List.filter_append,List.filter_eq_self.2 λ x hx=>by rw[hp x hx];rfl];simp[hpi]
end Go.Proofs.YtdamfbighdkcbaaGreat.V
set_option maxHeartbeats 8000000
namespace Go.Proofs.YtdamfbighdkcbaaGreat.V
open Go.RowKit Go.Proofs.YtdamfbighdkcbaaGreat.D Go.Proofs.YtdamfbighdkcbaaGreat.P
def upd1 (F x:List Int) (j:Nat):List Int:=F.take j++x.drop j
theorem Zd3 (F x:List Int):upd1 F x 0=x:=rfl
theorem ZeR {F x:List Int} (h:F.length=x.length):upd1 F x x.length=F:=by rw[upd1,<-h,List.take_length,h,List.drop_length,List.append_nil]
theorem ZeS {F x:List Int} (h:F.length=x.length) (j:Nat):(upd1 F x j).length=x.length:=by rw[upd1,List.length_append,List.length_take,List.length_drop];omega
theorem Zgo {F x:List Int} (h:F.length=x.length) {j:Nat} (hj:j<x.length):rd (upd1 F x j) (j:Int)=rd x (j:Int):=by
 have hl:(F.take j).length=j:=by rw[List.length_take];omega
 rw[upd1,ZbN (by omega),hl,Nat.sub_self,Zcu,Zcu,List.getD_eq_getElem?_getD,List.getD_eq_getElem?_getD,List.getElem?_drop,Nat.add_zero]
theorem Zd2 {F x:List Int} (h:F.length=x.length) {j:Nat} (hj:j<x.length):(upd1 F x j).set j (rd F (j:Int))=upd1 F x (j+1):=ZhA h hj rfl
theorem ZlB {x m:Int} (x0 : -4000000000000000000<=x) (x1:x<=4000000000000000000) (m0:0<m) (m1:m<=1000000):Int.tmod (wrapI (Int.tmod x m+m)) m=x%m:=by
 have t0:=Int.tmod_lt_of_pos x m0;have t1 : -m<Int.tmod x m:=Int.lt_tmod_of_pos x m0;have hq:=Int.mul_tdiv_add_tmod x m;have h5:(m*x.tdiv m+x.tmod m)%m=x.tmod m%m:=by rw[Int.add_comm,Int.add_mul_emod_self_left]
 rw[hq]at h5;rw[w64 (by omega) (by omega),Int.tmod_eq_emod_of_nonneg (show 0<=Int.tmod x m+m by omega),Int.add_emod_right,<-h5]
section
variable {m:Int} {W R:Nat}
theorem Zlv (m2:2<=m) (m12:m<=12) (hW:W<=1000) {X:List (List Int)} (hX:X.length=R) (hR:R<=100000) (hl:∀i:Nat,i<R->(row X (i:Int)).length=W/\∀c:Nat,c<W -> -1000000<=rd (row X (i:Int)) (c:Int)/\rd (row X (i:Int)) (c:Int)<=1000000) (out:List Int) :
  Za.l0 m (W:Int) (R:Int) 0 X out=Za.l2 m (W:Int) (X.map λ x=>nf m W (V x)) out:=by
 have loop:=up R (λ i=>Za.l0 m (W:Int) (R:Int) (i:Int) (updR (λ x=>nf m W (V x)) X i) out) (λ i hi=>by
  obtain⟨li,bi⟩:=hl i hi;have ul:=ZeT (λ x=>nf m W (V x)) X i;have ur:=ZfE (λ x=>nf m W (V x)) X (j:=i) (by omega);obtain⟨U,hU⟩:∃U,U=updR (λ x=>nf m W (V x)) X i:=⟨_,rfl⟩
  obtain⟨x,hx⟩:∃x,x=row X (i:Int):=⟨_,rfl⟩
  rw[<-hU]at ul ur;rw[<-hx]at ur li bi;have Fl:(nf m W (V x)).length=x.length:=by rw[ZeJ,li]
  have hset:U.set (i:Int).toNat (row U (i:Int))=U:=by rw[Int.toNat_natCast];exact Zbx U i
  have inner:=up W (λ c=>Za.l1 m (W:Int) (i:Int) (R:Int) (i:Int) (W:Int) (c:Int) (U.set i (upd1 (nf m W (V x)) x c)) out) (λ c hc=>by
   obtain⟨b0,b1⟩:=bi c hc;have sl:(U.set i (upd1 (nf m W (V x)) x c)).length=R:=by rw[List.length_set];omega
   have sr:row (U.set i (upd1 (nf m W (V x)) x c)) (i:Int)=upd1 (nf m W (V x)) x c:=ZaX (by omega);have l1:=ZeS Fl c;have tv:T (U.set i (upd1 (nf m W (V x)) x c)) (i:Int) (c:Int)=rd x (c:Int):=by show rd (row _ _) (c:Int)=_;rw[sr,Zgo Fl (by omega)]
   have ev:=ZlB (x:=rd x (c:Int)) (m:=m) (by omega) (by omega) (by omega) (by omega);have ev2:rd x (c:Int)%m=rd (nf m W (V x)) (c:Int):=(nf_rd (x:=V x) hc).symm;have me:¬ m=0:=by omega
   rw[Za.l1_eq,wn (j:=c) (by omega),tv,ev,ev2,sr,Int.toNat_natCast,Int.toNat_natCast,Zd2 Fl (by omega),List.set_set]
   ((with_reducible repeat (first|refine go_p ?_|refine go_n ?_|refine go_b ?_|dsimp only));first|done|(with_reducible rfl)|simp (disch:=omega) only[w64]))
  rw[Zd3,show upd1 (nf m W (V x)) x W=nf m W (V x)by rw[<-li];exact li ▸ ZeR Fl]at inner
  have hset2:U.set i x=U:=by rw[<-ur];exact Zbx U i
  rw[hset2]at inner;have inner:Za.l1 m (W:Int) (i:Int) (R:Int) (i:Int) (W:Int) 0 U out=_:=inner;have sl:(U.set i (nf m W (V x))).length=R:=by rw[List.length_set];omega
  have fin:Za.l1 m (W:Int) (i:Int) (R:Int) (i:Int) (W:Int) (W:Int) (U.set i (nf m W (V x))) out=Za.l0 m (W:Int) (R:Int) ((i+1:Nat):Int) (U.set i (nf m W (V x))) out:=by
   rw[Za.l1_eq,wn (j:=i) (by omega)]
   ((with_reducible repeat (first|refine go_p ?_|refine go_n ?_|refine go_b ?_|dsimp only));first|done|(with_reducible rfl)|simp (disch:=omega) only[w64])
  rw[<-hU,<-ZeU _ _ (show i<X.length by omega),<-hU,<-hx];show _=Za.l0 m (W:Int) (R:Int) ((i+1:Nat):Int) (U.set i (nf m W (V x))) out;rw[<-fin,<-inner,Za.l0_eq,hset,ur,li]
  ((with_reducible repeat (first|refine go_p ?_|refine go_n ?_|refine go_b ?_|dsimp only));first|done|(with_reducible rfl)|simp (disch:=omega) only[w64]))
 rw[ZeV,<-hX,ZfD]at loop;have loop:Za.l0 m (W:Int) (X.length:Int) 0 X out=_:=loop;rw[<-hX,loop,Za.l0_eq]
 ((with_reducible repeat (first|refine go_p ?_|refine go_n ?_|refine go_b ?_|dsimp only));first|done|(with_reducible rfl)|simp (disch:=omega) only[w64])
def FndI (m:Int) (r:List (List Int)) (k:Nat) (Z:Nat->Nat->Prop) (x y best:Int):Prop:=
 (x = -1/\best=m/\∀i c:Nat,Z i c->rd (row r (i:Int)) (c:Int)=0) \/
 ∃A C:Nat,x=(A:Int)/\y=(C:Int)/\Z A C/\¬ rd (row r (A:Int)) (C:Int)=0/\best=((Int.gcd (rd (row r (A:Int)) (C:Int)) m:Nat):Int) /\
  (∀i c:Nat,Z i c->¬ rd (row r (i:Int)) (c:Int)=0->best<=((Int.gcd (rd (row r (i:Int)) (c:Int)) m:Nat):Int)) /\
  (Z k k->¬ rd (row r (k:Int)) (k:Int)=0->((Int.gcd (rd (row r (k:Int)) (k:Int)) m:Nat):Int)<=best->A=k/\C=k)
theorem ZhX (m2:2<=m) (m12:m<=12) (hW:W<=1000) (hR:R<=100000) {r:List (List Int)} (hl:r.length=R) (ok:Rok m W r) {k:Nat} (hk:k<W) (out:List Int) :
  ∃x y best,Za.l3 m (W:Int) (k:Int) (-1) (-1) (k:Int) r out m=Za.l3 m (W:Int) (k:Int) x y (max R k:Nat) r out best/\FndI m r k (λ i c=>k<=i/\i<R/\k<=c/\c<W) x y best:=by
 have inner:∀(n c i:Nat) (x y best:Int),c+n=W->k<=c->k<=i->i<R->FndI m r k (λ i' c'=>k<=i' /\ k<=c' /\ (i'<i/\c'<W\/i'=i/\c'<c)) x y best->∃x' y' best', Za.l4 m (W:Int) (k:Int) x y (i:Int) (c:Int) r out best=Za.l3 m (W:Int) (k:Int) x' y' ((i+1:Nat):Int) r out best' /\ FndI m r k (λ i' c'=>k<=i' /\ k<=c' /\ i'<i+1/\c'<W) x' y' best':=by
  intro n
  induction n with
  | zero =>
   intro c i x y best hc _ _ hi hF;refine⟨x,y,best,?_,?_⟩
   ·
    rw[Za.l4_eq,wn (j:=i) (by omega)]
    ((with_reducible repeat (first|refine go_p ?_|refine go_n ?_|refine go_b ?_|dsimp only));first|done|(with_reducible rfl)|simp (disch:=omega) only[w64])
   ·
    have hZ:∀i' c' : Nat,(k<=i' /\ k<=c' /\ i'<i+1/\c'<W)↔(k<=i' /\ k<=c' /\ (i'<i/\c'<W\/i'=i/\c'<c)):=λ i' c'=>by omega
    rcases hF with ⟨h1,h2,h3⟩|⟨A,C,h1,h2,h3,h4,h5,h6,h7⟩
    ·exact .inl ⟨h1,h2,λ i' c' h=>h3 i' c' ((hZ i' c').1 h)⟩
    ·exact .inr ⟨A,C,h1,h2,(hZ A C).2 h3,h4,h5,λ i' c' h=>h6 i' c' ((hZ i' c').1 h),λ h=>h7 ((hZ k k).1 h)⟩
  | succ n ih =>
   intro c i x y best hc hkc hki hi hF;obtain⟨li,ai⟩:=ok i (by omega);obtain⟨v0,v1⟩:=ok.bd (i:=i) (k:=c) (by omega) (by omega);obtain⟨v,hv⟩:∃v,v=rd (row r (i:Int)) (c:Int):=⟨_,rfl⟩
   rw[<-hv]at v0 v1;have tv:T r (i:Int) (c:Int)=v:=hv.symm;have hG:=gcd_ (a:=v) (b:=m) v0 (by omega);obtain⟨g,hg⟩:∃g,g=((Int.gcd v m:Nat):Int):=⟨_,rfl⟩
   rw[<-hg]at hG;have hset:r.set (i:Int).toNat (row r (i:Int))=r:=by rw[Int.toNat_natCast];exact Zbx r i
   rw[Za.l4_eq,wn (j:=c) (by omega)];simp only[hset,tv]
   by_cases v00:v=0
   ·
    obtain ⟨x', y', best', k1,k2⟩:=ih (c+1) i x y best (by omega) (by omega) hki hi (by
     rcases hF with ⟨h1,h2,h3⟩|⟨A,C,h1,h2,h3,h4,h5,h6,h7⟩
     ·
      refine .inl ⟨h1,h2,λ i' c' h=>?_⟩
      by_cases e:i'=i/\c'=c
      ·rw[e.1,e.2,<-hv];exact v00
      ·exact h3 i' c' (by omega)
     ·
      refine .inr ⟨A,C,h1,h2,by omega,h4,h5,λ i' c' h hne=>?_,λ h hne=>?_⟩
      ·
       by_cases e:i'=i/\c'=c
       ·rw[e.1,e.2,<-hv]at hne;exact absurd v00 hne
       ·exact h6 i' c' (by omega) hne
      ·
       by_cases e:k=i/\k=c
       ·
        exfalso
        have e1:rd (row r (k:Int)) (k:Int)=v:=by rw[hv,show i=k from e.1.symm,show c=k from e.2.symm]
        rw[e1]at hne;exact hne v00
       ·exact h7 (by omega) hne)
    refine⟨x', y', best', ?_,k2⟩;rw[<-k1]
    ((with_reducible repeat (first|refine go_p ?_|refine go_n ?_|refine go_b ?_|dsimp only));first|done|(with_reducible rfl)|simp (disch:=omega) only[w64])
   ·
    have gle:g<=v:=by rw[hg];exact Int.le_of_dvd (by omega) (Int.gcd_dvd_left ..)
    by_cases hb:g<best
    ·
     obtain ⟨x', y', best', k1,k2⟩:=ih (c+1) i (i:Int) (c:Int) g (by omega) (by omega) hki hi (by
      refine .inr ⟨i,c,rfl,rfl,by omega,by rw[<-hv];exact v00,by rw[<-hv];exact hg,λ i' c' h hne=>?_,λ h hne hle=>?_⟩
      ·
       by_cases e:i'=i/\c'=c
       ·rw[e.1,e.2,<-hv,<-hg];exact Int.le_refl _
       ·
        rcases hF with ⟨h1,h2,h3⟩|⟨A,C,h1,h2,h3,h4,h5,h6,h7⟩
        ·exact absurd (h3 i' c' (by omega)) hne
        ·have:=h6 i' c' (by omega) hne;omega
      ·
       by_cases e:i=k/\c=k
       ·exact e
       ·
        exfalso
        rcases hF with ⟨h1,h2,h3⟩|⟨A,C,h1,h2,h3,h4,h5,h6,h7⟩
        ·exact hne (h3 k k (by omega))
        ·have:=h6 k k (by omega) hne;omega)
     refine⟨x', y', best', ?_,k2⟩;rw[<-k1]
     ((with_reducible repeat (first|refine go_p ?_|refine go_n ?_|refine go_b ?_|dsimp only));first|done|(with_reducible rfl)|simp (disch:=omega) only[w64])
    ·
     obtain ⟨x', y', best', k1,k2⟩:=ih (c+1) i x y best (by omega) (by omega) hki hi (by
      rcases hF with ⟨h1,h2,h3⟩|⟨A,C,h1,h2,h3,h4,h5,h6,h7⟩
      ·omega
      ·
       refine .inr ⟨A,C,h1,h2,by omega,h4,h5,λ i' c' h hne=>?_,λ h hne hle=>?_⟩
       ·
        by_cases e:i'=i/\c'=c
        ·rw[e.1,e.2,<-hv,<-hg];omega
        ·exact h6 i' c' (by omega) hne
       ·
        by_cases e:k=i/\k=c
        ·
         by_cases e2:A=k/\C=k
         ·exact e2
         ·
          exfalso
          have:(k<=A/\k<=C)/\¬ (A=k/\C=k)/\(A<i/\C<W\/A=i/\C<c):=⟨⟨by omega,by omega⟩,e2,by omega⟩
          omega
        ·exact h7 (by omega) hne hle)
     refine⟨x', y', best', ?_,k2⟩;rw[<-k1]
     ((with_reducible repeat (first|refine go_p ?_|refine go_n ?_|refine go_b ?_|dsimp only));first|done|(with_reducible rfl)|simp (disch:=omega) only[w64])
 have outer:∀(n i:Nat) (x y best:Int),i+n=max R k->k<=i->FndI m r k (λ i' c'=>k<=i' /\ k<=c' /\ i'<i/\c'<W) x y best->∃x' y' best', Za.l3 m (W:Int) (k:Int) x y (i:Int) r out best=Za.l3 m (W:Int) (k:Int) x' y' (max R k:Nat) r out best' /\ FndI m r k (λ i' c'=>k<=i' /\ k<=c' /\ i'<max R k/\c'<W) x' y' best':=by
  intro n
  induction n with
  | zero =>
   intro i x y best hi _ hF;have:i=max R k:=by omega
   subst this;exact⟨x,y,best,rfl,hF⟩
  | succ n ih =>
   intro i x y best hi hki hF;have hiR:i<R:=by omega
   obtain⟨x1,y1,b1,k1,k2⟩:=inner (W-k) k i x y best (by omega) (Nat.le_refl _) hki hiR (by
    have hZ:∀i' c' : Nat,(k<=i' /\ k<=c' /\ (i'<i/\c'<W\/i'=i/\c'<k))↔(k<=i' /\ k<=c' /\ i'<i/\c'<W):=λ i' c'=>by omega
    rcases hF with ⟨h1,h2,h3⟩|⟨A,C,h1,h2,h3,h4,h5,h6,h7⟩
    ·exact .inl ⟨h1,h2,λ i' c' h=>h3 i' c' ((hZ i' c').1 h)⟩
    ·exact .inr ⟨A,C,h1,h2,(hZ A C).2 h3,h4,h5,λ i' c' h=>h6 i' c' ((hZ i' c').1 h),λ h=>h7 ((hZ k k).1 h)⟩)
   obtain⟨x2,y2,b2,k3,k4⟩:=ih (i+1) x1 y1 b1 (by omega) (by omega) k2;refine⟨x2,y2,b2,?_,k4⟩;rw[<-k3,<-k1,Za.l3_eq]
   ((with_reducible repeat (first|refine go_p ?_|refine go_n ?_|refine go_b ?_|dsimp only));first|done|(with_reducible rfl)|simp (disch:=omega) only[w64])
 obtain⟨x,y,best,k1,k2⟩:=outer (max R k-k) k (-1) (-1) m (by omega) (Nat.le_refl _) (.inl ⟨rfl,rfl,λ i' c' h=>by omega⟩);refine⟨x,y,best,k1,?_⟩;have hZ:∀i' c' : Nat,(k<=i' /\ i'<R/\k<=c' /\ c'<W)↔(k<=i' /\ k<=c' /\ i'<max R k/\c'<W):=λ i' c'=>by omega
 rcases k2 with ⟨h1,h2,h3⟩|⟨A,C,h1,h2,h3,h4,h5,h6,h7⟩
 ·exact .inl ⟨h1,h2,λ i' c' h=>h3 i' c' ((hZ i' c').1 h)⟩
 ·exact .inr ⟨A,C,h1,h2,(hZ A C).2 h3,h4,h5,λ i' c' h=>h6 i' c' ((hZ i' c').1 h),λ h=>h7 ((hZ k k).1 h)⟩
end
def dgr (W i:Nat) (n:Int):List Int:=(List.replicate W 0).set i n
theorem Zls (W i:Nat) (n:Int):(dgr W i n).length=W:=by rw[dgr,List.length_set,List.length_replicate]
theorem ZjL {W i:Nat} {n:Int} (hi:i<W) (c:Nat):rd (dgr W i n) (c:Int)=if c=i then n else 0:=by
 unfold dgr
 by_cases e:c=i
 ·subst e;rw[if_pos rfl,Zbw (by rw[List.length_replicate];exact hi)]
 ·rw[if_neg e,ZbE e,ZbV]
def Lm (W:Nat) (out:List Int) (r:List (List Int)) (k:Nat):List (List Int):=(List.range k).map (λ i=>dgr W i (rd out (i:Int)))++r.drop k
theorem ZcQ {W:Nat} {out:List Int} {r:List (List Int)} {k:Nat} (hk:k<=r.length):(Lm W out r k).length=r.length:=by rw[Lm,List.length_append,List.length_map,List.length_range,List.length_drop];omega
theorem ZdC {W:Nat} {out:List Int} {r:List (List Int)} {k:Nat} (hk:k<=r.length) {i:Nat} (hi:i<r.length):row (Lm W out r k) (i:Int)=if i<k then dgr W i (rd out (i:Int))else row r (i:Int):=by
 have hl:=ZcQ (W:=W) (out:=out) hk;rw[Zbz (by omega)];unfold Lm
 by_cases h:i<k
 ·rw[if_pos h,List.getElem_append_left (by simpa using h)];simp
 ·
  rw[if_neg h,List.getElem_append_right (by simp;omega),Zbz hi]
  simp only[List.getElem_drop,List.length_map,List.length_range]
  congr 1
  omega
theorem Zk0 {W:Nat} {out:List Int} {r:List (List Int)} {k i:Nat} (hi:k<=i) (x:List Int):Lm W out (r.set i x) k=(Lm W out r k).set i x:=by unfold Lm;rw[List.set_append_right _ _ (by simp;omega),List.length_map,List.length_range,List.drop_set,if_neg (by omega)]
structure OutOk (m:Int) (W k:Nat) (out:List Int):Prop where
 len:out.length=k
 ent:∀n∈out,0<n/\n<m/\n∣m
theorem Lm_ok {m:Int} (m0:0<m) {W:Nat} {out:List Int} {r:List (List Int)} {k:Nat} (hk:k<=r.length) (ok:Rok m W r) (ho:OutOk m W k out):Rok m W (Lm W out r k):=λ i hi=>by
 rw[ZcQ hk]at hi;rw[ZdC hk hi]
 by_cases h:i<k
 ·
  rw[if_pos h];have:=ho.len;have he:=ho.ent _ (ZbU (i:=(i:Int)) (xs:=out) (by omega) (by omega));refine⟨Zls ..,ZbO λ z hz=>?_⟩;rcases List.mem_or_eq_of_mem_set hz with q|q
  ·rw[List.mem_replicate]at q;omega
  ·omega
 ·rw[if_neg h];exact ok i hi
theorem Zno {m:Int} (m0:0<m) {W:Nat} {out:List Int} {r:List (List Int)} {k:Nat} (hk:k<=r.length) (hkW:k<=W) {f:List Int->List Int} {T S:Vc->Vc} (h:Aut m W T S) (hd:∀i:Nat,i<k->∀n j,j<W->m∣T (V (dgr W i n)) j-V (dgr W i n) j)
  (hf:∀i:Nat,k<=i->i<r.length->∀j,j<W->m∣T (V (row r (i:Int))) j-V (f (row r (i:Int))) j):Eqd m W (Mx m W (Lm W out r k)) (Mx m W (Lm W out (r.map f) k)):=by
 refine Zk1 m0 h (by rw[ZcQ (by rw[List.length_map];exact hk),ZcQ hk,List.length_map]) λ i hi j hj=>?_
 rw[ZcQ hk]at hi;rw[ZdC hk hi,ZdC (by rw[List.length_map];exact hk) (by rw[List.length_map];exact hi)]
 by_cases q:i<k
 ·rw[if_pos q,if_pos q];exact hd i q _ j hj
 ·rw[if_neg q,if_neg q,Zb0 _ _ hi];exact hf i (by omega) hi j hj
def swk (k y:Nat) (x:List Int):List Int:=(x.set k (rd x (y:Int))).set y (rd x (k:Int))
theorem ZoF (k y:Nat) (x:List Int):(swk k y x).length=x.length:=by rw[swk,List.length_set,List.length_set]
theorem Zmt {k y:Nat} {x:List Int} (hk:k<x.length) (hy:y<x.length) (i:Nat):rd (swk k y x) (i:Int)=if i=y then rd x (k:Int)else if i=k then rd x (y:Int)else rd x (i:Int):=by
 unfold swk
 by_cases e:i=y
 ·subst e;rw[if_pos rfl,Zbw (by rw[List.length_set];exact hy)]
 ·
  rw[if_neg e,ZbE e]
  by_cases e2:i=k
  ·subst e2;rw[if_pos rfl,Zbw hk]
  ·rw[if_neg e2,ZbE e2]
theorem Zpg {m:Int} {k y:Nat} {x:List Int} (h:AllIn m x) (hk:k<x.length) (hy:y<x.length):AllIn m (swk k y x):=ZbO λ z hz=>by
 rcases List.mem_or_eq_of_mem_set hz with q|q
 ·
  rcases List.mem_or_eq_of_mem_set q with q|q
  ·exact h.mem q
  ·rw[q];exact h y (by omega) (by omega)
 ·rw[q];exact h k (by omega) (by omega)
theorem Zki (k:Nat) (x:List Int):swk k k x=x:=by
 unfold swk;rw[List.set_set]
 by_cases h:k<x.length
 ·rw[rd_get h];exact List.set_getElem_self h
 ·exact List.set_eq_of_length_le (by omega)
def cole (m:Int) (k c:Nat) (t:Int) (x:List Int):List Int:=x.set c ((rd x (c:Int)-t*rd x (k:Int))%m)
theorem ZmH (m:Int) (k c:Nat) (t:Int) (x:List Int):(cole m k c t x).length=x.length:=by rw[cole,List.length_set]
theorem Zg4 {m:Int} {k c:Nat} {t:Int} {x:List Int} (hc:c<x.length) (i:Nat):rd (cole m k c t x) (i:Int)=if i=c then(rd x (c:Int)-t*rd x (k:Int))%m else rd x (i:Int):=by
 unfold cole
 by_cases e:i=c
 ·subst e;rw[if_pos rfl,Zbw hc]
 ·rw[if_neg e,ZbE e]
theorem ZnX {m:Int} (m0:0<m) (k c:Nat) (t:Int) {x:List Int} (h:AllIn m x):AllIn m (cole m k c t x):=ZbO λ z hz=>by
 rcases List.mem_or_eq_of_mem_set hz with q|q
 ·exact h.mem q
 ·rw[q];exact⟨Int.emod_nonneg _ (by omega),Int.emod_lt_of_pos _ m0⟩
section
variable {m:Int} {W R k:Nat} {out:List Int}
theorem Zlt (hW:W<=1000) (hR:R<=100000) {r:List (List Int)} (hl:r.length=R) (ok:Rok m W r) (hk:k<W) {y:Nat} (hy:y<W) (best:Int):Za.l6 m (W:Int) (k:Int) (y:Int) (R:Int) 0 r out best=Za.l7 m (W:Int) (k:Int) 1 (r.map (swk k y)) out best:=by
 have loop:=up R (λ i=>Za.l6 m (W:Int) (k:Int) (y:Int) (R:Int) (i:Int) (updR (swk k y) r i) out best) (λ i hi=>by
  obtain⟨li,ai⟩:=ok i (by omega);have ul:=ZeT (swk k y) r i;have ur:=ZfE (swk k y) r (j:=i) (by omega);have tk:T (updR (swk k y) r i) (i:Int) (k:Int)=rd (row r (i:Int)) (k:Int):=by rw[Tn,ur]
  have ty:T (updR (swk k y) r i) (i:Int) (y:Int)=rd (row r (i:Int)) (y:Int):=by rw[Tn,ur]
  have l1:((row r (i:Int)).set k (rd (row r (i:Int)) (y:Int))).length=W:=by rw[List.length_set];exact li
  rw[Za.l6_eq,wn (j:=i) (by omega),ur,tk,ty,<-ZeU _ _ (show i<r.length by omega),Int.toNat_natCast,Int.toNat_natCast,Int.toNat_natCast];show _=Za.l6 m (W:Int) (k:Int) (y:Int) (R:Int) ((i+1:Nat):Int) ((updR (swk k y) r i).set i (((row r (i:Int)).set k (rd (row r (i:Int)) (y:Int))).set y (rd (row r (i:Int)) (k:Int)))) out best
  ((with_reducible repeat (first|refine go_p ?_|refine go_n ?_|refine go_b ?_|dsimp only));first|done|(with_reducible rfl)|simp (disch:=omega) only[w64]))
 rw[ZeV,show updR (swk k y) r R=r.map (swk k y)by rw[<-hl];exact ZfD _ _]at loop
 have loop:Za.l6 m (W:Int) (k:Int) (y:Int) (R:Int) 0 r out best=_:=loop;rw[loop,Za.l6_eq]
 ((with_reducible repeat (first|refine go_p ?_|refine go_n ?_|refine go_b ?_|dsimp only));first|done|(with_reducible rfl)|simp (disch:=omega) only[w64])
theorem Zly (m2:2<=m) (m12:m<=12) (hW:W<=1000) (hR:R<=100000) {r:List (List Int)} (hl:r.length=R) (ok:Rok m W r) (hk:k<W) (hkR:k<R) {best x:Int} (hx:x=rd (row r (k:Int)) (k:Int)) (xne:¬ x=0) (hb:best=((Int.gcd x m:Nat):Int)) :
  ∃u:Int,(1<=u/\u<=12)/\Int.gcd u m=1/\x*u%m=best/\(x=best->u=1)/\Za.l7 m (W:Int) (k:Int) 1 r out best=Za.l8 m (W:Int) (k:Int) u (W:Int) 0 r out best:=by
 obtain⟨lk,ak⟩:=ok k (by omega);obtain⟨v0,v1⟩:=ok.bd (i:=k) (k:=k) (by omega) hk;rw[<-hx]at v0 v1;have tx:T r (k:Int) (k:Int)=x:=hx.symm;have hset:r.set (k:Int).toNat (row r (k:Int))=r:=by rw[Int.toNat_natCast];exact Zbx r k
 have bx:best<=x:=by rw[hb];exact Int.le_of_dvd (by omega) (Int.gcd_dvd_left ..)
 have b0:0<best:=by rw[hb];exact_mod_cast Int.gcd_pos_of_ne_zero_left m xne
 obtain⟨M,rfl⟩:=Int.eq_ofNat_of_zero_le (show 0<=m by omega);obtain⟨x', hx'⟩:=Int.eq_ofNat_of_zero_le v0;have tab:=Zkm M (by omega) x' (by omega) (by omega);obtain⟨u0,hu0,hu⟩:=List.any_eq_true.1 tab;have hu0:=List.mem_range.1 hu0;rw[Bool.and_eq_true,Bool.and_eq_true,decide_eq_true_iff,decide_eq_true_iff,decide_eq_true_iff]at hu;obtain⟨⟨u1,u2⟩,u3⟩:=hu;have good0:x*(u0:Int)%(M:Int)=best:=by
  rw[hx', hb,hx'];have e:((x' : Int)*(u0:Int))%(M:Int)=((x' * u0%M:Nat):Int):=by push_cast;rfl
  rw[e,u3];have:Nat.gcd x' M<M:=by have:=Nat.le_of_dvd (show 0<x' by omega) (Nat.gcd_dvd_left x' M);omega
  rw[Nat.mod_eq_of_lt this]
  rfl
 have me:¬ (M:Int)=0:=by omega
 have key:∀(n u:Nat),u+n=u0->1<=u->(x=best->u=1)->∃v:Int,(1<=v/\v<=12)/\Int.gcd v (M:Int)=1/\x*v%(M:Int)=best/\(x=best->v=1)/\Za.l7 (M:Int) (W:Int) (k:Int) (u:Int) r out best=Za.l8 (M:Int) (W:Int) (k:Int) v (W:Int) 0 r out best:=by
  intro n
  induction n with
  | zero =>
   intro u hu h1 hq;have:u=u0:=by omega
   subst this;refine⟨(u:Int),⟨by omega,by omega⟩,u2,good0,λ h=>by have:=hq h;omega,?_⟩;have hG:=gcd_ (a:=(u:Int)) (b:=(M:Int)) (by omega) (by omega);rw[show Int.gcd (u:Int) (M:Int)=1 from u2]at hG;have hG:Zbj.f (u:Int) (M:Int)=some 1:=hG;have xu:0<=x*(u:Int)/\x*(u:Int)<=12*12:=⟨Int.mul_nonneg v0 (by omega),Int.mul_le_mul (by omega) (by omega) (by omega) (by omega)⟩
   have w:Int.tmod (wrapI (x*(u:Int))) (M:Int)=best:=by rw[w64 (by omega) (by omega),Zcc (by omega),good0]
   have o1:(1:Int)=1:=rfl;rw[Za.l7_eq,tx,w];simp only[hset,if_true];rw[lk]
   ((with_reducible repeat (first|refine go_p ?_|refine go_n ?_|refine go_b ?_|dsimp only));first|done|(with_reducible rfl)|simp (disch:=omega) only[w64])
  | succ n ih =>
   intro u hu h1 hq;have hG:=gcd_ (a:=(u:Int)) (b:=(M:Int)) (by omega) (by omega);have xu:0<=x*(u:Int)/\x*(u:Int)<=12*12:=⟨Int.mul_nonneg v0 (by omega),Int.mul_le_mul (by omega) (by omega) (by omega) (by omega)⟩
   have w:Int.tmod (wrapI (x*(u:Int))) (M:Int)=x*(u:Int)%(M:Int):=by rw[w64 (by omega) (by omega),Zcc (by omega)]
   by_cases hg:((Int.gcd (u:Int) (M:Int):Nat):Int)=1
   ·
    rw[hg]at hG;have o1:(1:Int)=1:=rfl
    by_cases hxu:x*(u:Int)%(M:Int)=best
    ·
     refine⟨(u:Int),⟨by omega,by omega⟩,by omega,hxu,λ h=>by have:=hq h;omega,?_⟩
     rw[Za.l7_eq,tx,w];simp only[hset];rw[lk]
     ((with_reducible repeat (first|refine go_p ?_|refine go_n ?_|refine go_b ?_|dsimp only));first|done|(with_reducible rfl)|simp (disch:=omega) only[w64])
    ·
     obtain⟨v,k1,k2,k3,k4,k5⟩:=ih (u+1) (by omega) (by omega) (λ h=>by
      exfalso
      have hu1:=hq h;subst hu1
      apply hxu
      rw[h,Int.natCast_one,Int.mul_one];exact Int.emod_eq_of_lt (by omega) (by omega))
     refine⟨v,k1,k2,k3,k4,?_⟩;rw[<-k5,Za.l7_eq,tx,w,wn (j:=u) (by omega)];simp only[hset]
     ((with_reducible repeat (first|refine go_p ?_|refine go_n ?_|refine go_b ?_|dsimp only));first|done|(with_reducible rfl)|simp (disch:=omega) only[w64])
   ·
    obtain⟨v,k1,k2,k3,k4,k5⟩:=ih (u+1) (by omega) (by omega) (λ h=>by
     exfalso
     have hu1:=hq h;subst hu1
     apply hg
     simp)
    refine⟨v,k1,k2,k3,k4,?_⟩;rw[<-k5,Za.l7_eq,wn (j:=u) (by omega)]
    ((with_reducible repeat (first|refine go_p ?_|refine go_n ?_|refine go_b ?_|dsimp only));first|done|(with_reducible rfl)|simp (disch:=omega) only[w64])
 exact key (u0-1) 1 (by omega) (Nat.le_refl _) λ _=>rfl
theorem ZkB (m2:2<=m) (m12:m<=12) (hW:W<=1000) (hR:R<=100000) {r:List (List Int)} (hl:r.length=R) (ok:Rok m W r) (hk:k<W) (hkR:k<R) {u:Int} (u1:1<=u) (u2:u<=12) (best:Int) :
  Za.l8 m (W:Int) (k:Int) u (W:Int) 0 r out best=Za.l9 m (W:Int) (k:Int) true ((k+1:Nat):Int) (r.set k (mix m u (row r (k:Int)) 0 (row r (k:Int)))) out best:=by
 obtain⟨lk,ak⟩:=ok k (by omega);obtain⟨x,hx⟩:∃x,x=row r (k:Int):=⟨_,rfl⟩
 obtain⟨F,hF⟩:∃F,F=mix m u x 0 x:=⟨_,rfl⟩
 rw[<-hx]at lk ak ⊢;rw[<-hF];have Fl:F.length=x.length:=by rw[hF,Zbl]
 have me:¬ m=0:=by omega
 have inner:=up W (λ c=>Za.l8 m (W:Int) (k:Int) u (W:Int) (c:Int) (r.set k (upd1 F x c)) out best) (λ c hc=>by
  obtain⟨v0,v1⟩:=ak (c:Int) (by omega) (by omega);have sl:(r.set k (upd1 F x c)).length=R:=by rw[List.length_set];omega
  have sr:row (r.set k (upd1 F x c)) (k:Int)=upd1 F x c:=ZaX (by omega);have l1:=ZeS Fl c;have tv:T (r.set k (upd1 F x c)) (k:Int) (c:Int)=rd x (c:Int):=by rw[Tn,sr,Zgo Fl (by omega)]
  have xu:0<=rd x (c:Int)*u/\rd x (c:Int)*u<=12*12:=⟨Int.mul_nonneg v0 (by omega),Int.mul_le_mul (by omega) (by omega) (by omega) (by omega)⟩
  have w:Int.tmod (wrapI (rd x (c:Int)*u)) m=rd F (c:Int):=by rw[w64 (by omega) (by omega),Zcc (by omega),hF,ZbT (by omega),Int.mul_comm,Int.zero_mul,Int.add_zero]
  rw[Za.l8_eq,wn (j:=c) (by omega),tv,w,sr,Int.toNat_natCast,Int.toNat_natCast,Zd2 Fl (by omega),List.set_set]
  ((with_reducible repeat (first|refine go_p ?_|refine go_n ?_|refine go_b ?_|dsimp only));first|done|(with_reducible rfl)|simp (disch:=omega) only[w64]))
 rw[Zd3,show upd1 F x W=F by rw[<-lk];exact ZeR Fl,show r.set k x=r by rw[hx];exact Zbx r k]at inner
 have inner:Za.l8 m (W:Int) (k:Int) u (W:Int) 0 r out best=_:=inner;rw[inner,Za.l8_eq,wn (j:=k) (by omega)]
 ((with_reducible repeat (first|refine go_p ?_|refine go_n ?_|refine go_b ?_|dsimp only));first|done|(with_reducible rfl)|simp (disch:=omega) only[w64])
structure RI (m:Int) (W R k:Nat) (out:List Int) (r0 r:List (List Int)):Prop where
 len:r.length=R
 ok:Rok m W r
 eqd:Eqd m W (Mx m W (Lm W out r0 k)) (Mx m W (Lm W out r k))
 zer:(∀i c:Nat,k<=i->i<R->c<k->rd (row r0 (i:Int)) (c:Int)=0)->∀i c:Nat,k<=i->i<R->c<k->rd (row r (i:Int)) (c:Int)=0
 dv:∀d:Int,d∣m->(∀i c:Nat,k<=i->i<R->c<W->d∣rd (row r0 (i:Int)) (c:Int))->∀i c:Nat,k<=i->i<R->c<W->d∣rd (row r (i:Int)) (c:Int)
theorem RI.refl {r:List (List Int)} (hl:r.length=R) (ok:Rok m W r):RI m W R k out r r:=⟨hl,ok,λ _=>rfl,λ h=>h,λ _ _ h=>h⟩
theorem RI.trans {r0 r1 r2:List (List Int)} (h:RI m W R k out r0 r1) (h' : RI m W R k out r1 r2):RI m W R k out r0 r2:=⟨h'.len,h'.ok,h.eqd.trans h'.eqd,λ z=>h'.zer (h.zer z),λ d hd z=>h'.dv d hd (h.dv d hd z)⟩
theorem ZjN {d a m:Int} (hd:d∣m) (h:d∣a):d∣a%m:=by
 have e:=Int.mul_ediv_add_emod a m;have:a%m=a-m*(a / m):=by omega
 rw[this];exact Int.dvd_sub h (Int.dvd_mul_of_dvd_left hd)
theorem ZnF {r:List (List Int)} (m0:0<m) (hl:r.length=R) (ok:Rok m W r) {i:Nat} (hki:k<=i) (hi:i<R) {j:Nat} (hkj:k<=j) (hj:j<R) (p q:Int) (he:Eqd m W (Mx m W (Lm W out r k)) (Mx m W ((Lm W out r k).set i (mix m p (row r (i:Int)) q (row r (j:Int)))))):RI m W R k out r (r.set i (mix m p (row r (i:Int)) q (row r (j:Int)))):=by
 obtain⟨li,ai⟩:=ok i (by omega);have hr:∀n c:Nat,c<W->rd (row (r.set i (mix m p (row r (i:Int)) q (row r (j:Int)))) (n:Int)) (c:Int)=if n=i then(p*rd (row r (i:Int)) (c:Int)+q*rd (row r (j:Int)) (c:Int))%m else rd (row r (n:Int)) (c:Int):=λ n c hc=>by
  by_cases e:n=i
  ·subst e;rw[if_pos rfl,ZaX (by omega),ZbT (by omega)]
  ·rw[if_neg e,Zbm e]
 refine⟨by rw[List.length_set];exact hl,ok.set ⟨by rw[Zbl];exact li,Zcp m0⟩,by rw[Zk0 hki];exact he,λ z n c h1 h2 h3=>?_,λ d hd z n c h1 h2 h3=>?_⟩
 ·
  by_cases hcW:c<W
  ·
   rw[hr n c hcW]
   split
   ·rw[z i c hki hi h3,z j c hkj hj h3,Int.mul_zero,Int.mul_zero];rfl
   ·exact z n c h1 h2 h3
  ·
   have hn:=(ok.set (j:=i) (x:=mix m p (row r (i:Int)) q (row r (j:Int))) ⟨by rw[Zbl];exact li,Zcp m0⟩) n (by rw[List.length_set];omega)
   rw[Zcu,List.getD_eq_getElem?_getD,List.getElem?_eq_none (by omega)];rfl
 ·
  rw[hr n c h3]
  split
  ·exact ZjN hd (Int.dvd_add (Int.dvd_mul_of_dvd_right (z i c hki hi h3)) (Int.dvd_mul_of_dvd_right (z j c hkj hj h3)))
  ·exact z n c h1 h2 h3
end
section
variable {m:Int} {W R k:Nat} {out:List Int}
theorem ZnE (m0:0<m) {r:List (List Int)} (hl:r.length=R) (ok:Rok m W r) (ho:OutOk m W k out) (hkR:k<=R) {i j:Nat} (hki:k<=i) (hi:i<R) (hkj:k<=j) (hj:j<R) (hij:i≠j) (y:Int):RI m W R k out r (r.set i (mix m 1 (row r (i:Int)) y (row r (j:Int)))):=by refine ZnF m0 hl ok hki hi hkj hj 1 y ?_;have h:=Zmd m0 (Lm_ok m0 (by omega) ok ho) (i:=i) (j:=j) (by rw[ZcQ (by omega)];omega) (by rw[ZcQ (by omega)];omega) hij y;rwa[ZdC (by omega) (by omega),if_neg (by omega),ZdC (by omega) (by omega),if_neg (by omega)]at h
theorem Zoz (m0:0<m) {r:List (List Int)} (hl:r.length=R) (ok:Rok m W r) (ho:OutOk m W k out) (hkR:k<=R) {i:Nat} (hki:k<=i) (hi:i<R) {u v:Int} (huv:m∣u*v-1):RI m W R k out r (r.set i (mix m u (row r (i:Int)) 0 (row r (i:Int)))):=by refine ZnF m0 hl ok hki hi hki hi u 0 ?_;have h:=Zhw m0 (Lm_ok m0 (by omega) ok ho) (i:=i) (by rw[ZcQ (by omega)];omega) huv (row r (i:Int));rwa[ZdC (by omega) (by omega),if_neg (by omega)]at h
theorem Zlr (m0:0<m) {k a b:Nat} (hak:k<=a) (hbk:k<=b) {p q s t:Int} {i:Nat} (hi:i<k) (hW:k<=W) (n:Int) (j:Nat):m∣pairT a b p q s t (V (dgr W i n)) j-V (dgr W i n) j:=by
 refine ZaG ?_;have z:∀c:Nat,k<=c->V (dgr W i n) c=0:=λ c hc=>by rw[V,ZjL (by omega),if_neg (by omega)]
 unfold pairT
 by_cases e:j=a
 ·rw[if_pos e,z a hak,z b hbk,e,z a hak,Int.mul_zero,Int.mul_zero];rfl
 ·
  rw[if_neg e]
  by_cases e2:j=b
  ·rw[if_pos e2,z a hak,z b hbk,e2,z b hbk,Int.mul_zero,Int.mul_zero];rfl
  ·rw[if_neg e2]
theorem Zoy {r:List (List Int)} (hl:r.length=R) (ok:Rok m W r) (hkR:k<=R) {i j:Nat} (hki:k<=i) (hi:i<R) (hkj:k<=j) (hj:j<R):RI m W R k out r ((r.set i (row r (j:Int))).set j (row r (i:Int))):=by
 have e:=Zj9 (m:=m) (W:=W) (r:=Lm W out r k) (i:=i) (j:=j) (by rw[ZcQ (by omega)];omega) (by rw[ZcQ (by omega)];omega)
 rw[ZdC (by omega) (by omega),if_neg (by omega),ZdC (by omega) (by omega),if_neg (by omega)]at e;have hr:∀n:Nat,n<R->row ((r.set i (row r (j:Int))).set j (row r (i:Int))) (n:Int)=if n=j then row r (i:Int)else if n=i then row r (j:Int)else row r (n:Int):=λ n hn=>by
  by_cases e:n=j
  ·subst e;rw[if_pos rfl,ZaX (by rw[List.length_set];omega)]
  ·
   rw[if_neg e,Zbm e]
   by_cases e2:n=i
   ·subst e2;rw[if_pos rfl,ZaX (by omega)]
   ·rw[if_neg e2,Zbm e2]
 refine⟨by rw[List.length_set,List.length_set];exact hl,(ok.set (ok j (by omega))).set (ok i (by omega)),by rw[Zk0 hkj,Zk0 hki];exact e,λ z n c h1 h2 h3=>?_,λ d hd z n c h1 h2 h3=>?_⟩
 ·
  rw[hr n h2]
  split
  ·exact z i c hki hi h3
  ·
   split
   ·exact z j c hkj hj h3
   ·exact z n c h1 h2 h3
 ·
  rw[hr n h2]
  split
  ·exact z i c hki hi h3
  ·
   split
   ·exact z j c hkj hj h3
   ·exact z n c h1 h2 h3
theorem Zpd (m0:0<m) {r:List (List Int)} (hl:r.length=R) (ok:Rok m W r) (hkR:k<=R) (hk:k<W) {y:Nat} (hky:k<=y) (hy:y<W):RI m W R k out r (r.map (swk k y)):=by
 have ok' : Rok m W (r.map (swk k y)):=λ i hi=>by rw[List.length_map]at hi;obtain⟨a1,a2⟩:=ok i hi;rw[Zb0 _ _ hi];exact⟨by rw[ZoF];exact a1,Zpg a2 (by omega) (by omega)⟩
 have hr:∀n c:Nat,n<R->rd (row (r.map (swk k y)) (n:Int)) (c:Int)=if c=y then rd (row r (n:Int)) (k:Int)else if c=k then rd (row r (n:Int)) (y:Int)else rd (row r (n:Int)) (c:Int):=λ n c hn=>by rw[Zb0 _ _ (by omega),Zmt (by have:=(ok n (by omega)).1;omega) (by have:=(ok n (by omega)).1;omega)]
 refine⟨by rw[List.length_map];exact hl,ok', ?_,λ z n c h1 h2 h3=>?_,λ d hd z n c h1 h2 h3=>?_⟩
 ·
  by_cases e:k=y
  ·subst e;rw[show r.map (swk k k)=r by rw[show swk k k=id from funext λ x=>Zki k x,List.map_id]];exact λ _=>rfl
  ·
   refine Zno m0 (by omega) (by omega) (ZeM (r:=W) (a:=k) (b:=y) (p:=0) (q:=1) (s:=1) (t:=0) (p':=0) (q':=1) (s':=1) (t':=0) e hk hy rfl rfl rfl rfl rfl rfl rfl rfl) (λ i hi n j hj=>Zlr m0 (k:=k) (Nat.le_refl _) hky hi (by omega) n j) λ i h1 h2 j hj=>ZaG ?_
   have a1:=(ok i h2).1;show pairT k y 0 1 1 0 (V (row r (i:Int))) j=rd (swk k y (row r (i:Int))) (j:Int);rw[Zmt (by omega) (by omega),pairT]
   by_cases q:j=k
   ·rw[if_pos q,if_neg (by omega),if_pos q];show 0*rd _ _+1*rd _ (y:Int)=_;omega
   ·
    rw[if_neg q]
    by_cases q2:j=y
    ·rw[if_pos q2,if_pos q2];show 1*rd _ (k:Int)+0*rd _ _=_;omega
    ·rw[if_neg q2,if_neg q2,if_neg q];rfl
 ·rw[hr n c h2,if_neg (by omega),if_neg (by omega)];exact z n c h1 h2 h3
 ·
  rw[hr n c h2]
  split
  ·exact z n k h1 h2 hk
  ·
   split
   ·exact z n y h1 h2 hy
   ·exact z n c h1 h2 h3
theorem ZnY (m0:0<m) {r:List (List Int)} (ok:Rok m W r) (c:Nat) (t:Int):Rok m W (r.map (cole m k c t)):=λ i hi=>by rw[List.length_map]at hi;obtain⟨a1,a2⟩:=ok i hi;rw[Zb0 _ _ hi];exact⟨by rw[ZmH];exact a1,ZnX m0 _ _ _ a2⟩
theorem Zox (m0:0<m) {r:List (List Int)} (hl:r.length=R) (ok:Rok m W r) (hkR:k<=R) {c:Nat} (hk:k<c) (hc:c<W) (t:Int):RI m W R k out r (r.map (cole m k c t)):=by
 have hr:∀n j:Nat,n<R->rd (row (r.map (cole m k c t)) (n:Int)) (j:Int)=if j=c then(rd (row r (n:Int)) (c:Int)-t*rd (row r (n:Int)) (k:Int))%m else rd (row r (n:Int)) (j:Int):=λ n j hn=>by rw[Zb0 _ _ (by omega),Zg4 (by have:=(ok n (by omega)).1;omega)]
 refine⟨by rw[List.length_map];exact hl,ZnY m0 ok c t,?_,λ z n j h1 h2 h3=>?_,λ d hd z n j h1 h2 h3=>?_⟩
 ·
  refine Zno m0 (by omega) (by omega) (ZeM (r:=W) (a:=k) (b:=c) (p:=1) (q:=0) (s:=-t) (t:=1) (p':=1) (q':=0) (s':=t) (t':=1) (by omega) (by omega) hc (by omega) (by omega) (by omega) (by omega) (by omega) (by omega) (by omega) (by omega)) (λ i hi n j hj=>Zlr m0 (k:=k) (Nat.le_refl _) (by omega) hi (by omega) n j) λ i h1 h2 j hj=>?_
  have a1:=(ok i h2).1;show m∣pairT k c 1 0 (-t) 1 (V (row r (i:Int))) j-rd (cole m k c t (row r (i:Int))) (j:Int);rw[Zg4 (by omega),pairT]
  by_cases q:j=k
  ·rw[if_pos q,if_neg (by omega),q];refine ZaG ?_;show 1*rd _ (k:Int)+0*rd _ _=_;omega
  ·
   rw[if_neg q]
   by_cases q2:j=c
   ·rw[if_pos q2,if_pos q2];show m ∣ -t*rd (row r (i:Int)) (k:Int)+1*rd (row r (i:Int)) (c:Int)-_;rw[show -t*rd (row r (i:Int)) (k:Int)+1*rd (row r (i:Int)) (c:Int)=rd (row r (i:Int)) (c:Int)-t*rd (row r (i:Int)) (k:Int)by rw[Int.neg_mul];omega];exact Int.dvd_self_sub_emod
   ·rw[if_neg q2,if_neg q2];exact ZaG rfl
 ·rw[hr n j h2,if_neg (by omega)];exact z n j h1 h2 h3
 ·
  rw[hr n j h2]
  split
  ·exact ZjN hd (Int.dvd_sub (z n c h1 h2 hc) (Int.dvd_mul_of_dvd_right (z n k h1 h2 (by omega))))
  ·exact z n j h1 h2 h3
theorem Zlw (m2:2<=m) (m12:m<=12) (hW:W<=1000) (hR:R<=100000) (hk:k<W) (ho:OutOk m W k out) {best:Int} (b0:0<best) (bm:best<m):∀(n i:Nat) (r:List (List Int)) (flag:Bool),i+n=R->k<i->r.length=R->Rok m W r->rd (row r (k:Int)) (k:Int)=best ->
  ∃r' flag', Za.l9 m (W:Int) (k:Int) flag (i:Int) r out best=Za.l11 m (W:Int) (k:Int) flag' ((k+1:Nat):Int) r' out best/\RI m W R k out r r' /\ row r' (k:Int)=row r (k:Int)/\(∀j:Nat,j<i->row r' (j:Int)=row r (j:Int))/\(∀j:Nat,i<=j->j<R->rd (row r' (j:Int)) (k:Int)=rd (row r (j:Int)) (k:Int)%best) /\
   (flag'=true↔flag=true/\∀j:Nat,i<=j->j<R->rd (row r' (j:Int)) (k:Int)=0)/\((∀j:Nat,i<=j->j<R->rd (row r (j:Int)) (k:Int)=0)->r'=r):=by
 intro n
 induction n with
 | zero =>
  intro i r flag hi hki hl ok hb;refine⟨r,flag,?_,.refl hl ok,rfl,λ j _=>rfl,λ j h1 h2=>by omega,⟨λ h=>⟨h,λ j h1 h2=>by omega⟩,λ h=>h.1⟩,λ _=>rfl⟩;rw[Za.l9_eq,wn (j:=k) (by omega)]
  ((with_reducible repeat (first|refine go_p ?_|refine go_n ?_|refine go_b ?_|dsimp only));first|done|(with_reducible rfl)|simp (disch:=omega) only[w64])
 | succ n ih =>
  intro i r flag hi hki hl ok hb;obtain⟨li,ai⟩:=ok i (by omega);obtain⟨lk,ak⟩:=ok k (by omega);obtain⟨v0,v1⟩:=ok.bd (i:=i) (k:=k) (by omega) hk;obtain⟨x,hx⟩:∃x,x=row r (i:Int):=⟨_,rfl⟩
  obtain⟨f,hf⟩:∃f,f=row r (k:Int):=⟨_,rfl⟩
  obtain⟨v,hv⟩:∃v,v=rd x (k:Int):=⟨_,rfl⟩
  rw[<-hx]at li ai v0 v1;rw[<-hf]at lk ak hb;rw[<-hv]at v0 v1;have tv:T r (i:Int) (k:Int)=v:=by rw[Tn,<-hx,<-hv]
  obtain⟨w1,w2,w3⟩:=w_div (x:=v) (g:=best) v0 (by omega) b0;obtain⟨t,ht⟩:∃t,t=v / best:=⟨_,rfl⟩
  rw[<-ht]at w1 w2 w3;obtain⟨F,hF⟩:∃F,F=mix m 1 x (-t) f:=⟨_,rfl⟩
  have Fl:F.length=x.length:=by rw[hF,Zbl]
  have me:¬ m=0:=by omega
  have be:¬ best=0:=by omega
  have hset:r.set (i:Int).toNat (row r (i:Int))=r:=by rw[Int.toNat_natCast];exact Zbx r i
  have inner:=up W (λ c=>Za.l10 m (W:Int) (k:Int) flag (i:Int) t (W:Int) (c:Int) (r.set i (upd1 F x c)) out best) (λ c hc=>by
   obtain⟨a0,a1⟩:=ai (c:Int) (by omega) (by omega);obtain⟨c0,c1⟩:=ak (c:Int) (by omega) (by omega);have sl:(r.set i (upd1 F x c)).length=R:=by rw[List.length_set];omega
   have sr:row (r.set i (upd1 F x c)) (i:Int)=upd1 F x c:=ZaX (by omega);have sk:row (r.set i (upd1 F x c)) (k:Int)=f:=by rw[Zbm (by omega)];exact hf.symm
   have l1:=ZeS Fl c;have tvc:T (r.set i (upd1 F x c)) (i:Int) (c:Int)=rd x (c:Int):=by rw[Tn,sr,Zgo Fl (by omega)]
   have tkc:T (r.set i (upd1 F x c)) (k:Int) (c:Int)=rd f (c:Int):=by rw[Tn,sk]
   have tw:0<=t*rd f (c:Int)/\t*rd f (c:Int)<=12*12:=⟨Int.mul_nonneg w2 (by omega),Int.mul_le_mul (by omega) (by omega) (by omega) (by omega)⟩
   have e1:Int.tmod (wrapI (Int.tmod (wrapI (rd x (c:Int)-wrapI (t*rd f (c:Int)))) m+m)) m=rd F (c:Int):=by
    rw[w64 (x:=t*rd f (c:Int)) (by omega) (by omega),w64 (x:=rd x (c:Int)-t*rd f (c:Int)) (by omega) (by omega),ZlB (by omega) (by omega) (by omega) (by omega),hF,ZbT (by omega),Int.one_mul,Int.neg_mul]
    rfl
   have hsk:(r.set i (upd1 F x c)).set (k:Int).toNat f=r.set i (upd1 F x c):=by rw[Int.toNat_natCast,<-sk];exact Zbx _ k
   rw[Za.l10_eq,wn (j:=c) (by omega),tvc,tkc,e1,sr,sk,hsk,Int.toNat_natCast,Int.toNat_natCast,Zd2 Fl (by omega)];simp only[List.set_set,if_true]
   ((with_reducible repeat (first|refine go_p ?_|refine go_n ?_|refine go_b ?_|dsimp only));first|done|(with_reducible rfl)|simp (disch:=omega) only[w64]))
  rw[Zd3,show upd1 F x W=F by rw[<-li];exact ZeR Fl,show r.set i x=r by rw[hx];exact Zbx r i]at inner
  have inner:Za.l10 m (W:Int) (k:Int) flag (i:Int) t (W:Int) 0 r out best=_:=inner;obtain⟨r1,hr1⟩:∃r1,r1=r.set i F:=⟨_,rfl⟩
  have r1l:r1.length=R:=by rw[hr1,List.length_set];exact hl
  have r1i:row r1 (i:Int)=F:=by rw[hr1];exact ZaX (by omega)
  have r1n:∀j:Nat,j≠i->row r1 (j:Int)=row r (j:Int):=λ j hj=>by rw[hr1,Zbm hj]
  have ri:RI m W R k out r r1:=by rw[hr1,hF,hx,hf];exact ZnE (by omega) hl ok ho (by omega) (by omega) (by omega) (Nat.le_refl _) (by omega) (by omega) (-t)
  have Fk:rd F (k:Int)=v%best:=by have q:=Int.mul_ediv_add_emod v best;have q1:=Int.emod_nonneg v (show best≠0 by omega);have q2:=Int.emod_lt_of_pos v b0;rw[hF,ZbT (by omega),<-hv,hb,ht,Int.one_mul,Int.neg_mul,Int.mul_comm (v / best) best,show v + -(best*(v / best))=v%best by omega];exact Int.emod_eq_of_lt (by omega) (by omega)
  have same:v=0->r1=r:=λ h=>by
   have t0:t=0:=by rw[ht,h,Int.zero_ediv]
   rw[hr1,hF,t0,Zj2 ai,hx];exact Zbx r i
  have fin:Za.l10 m (W:Int) (k:Int) flag (i:Int) t (W:Int) (W:Int) r1 out best=Za.l9 m (W:Int) (k:Int) (flag && decide (v%best=0)) ((i+1:Nat):Int) r1 out best:=by
   have tk:T r1 (i:Int) (k:Int)=v%best:=by rw[Tn,r1i,Fk]
   have hs1:r1.set (i:Int).toNat F=r1:=by rw[Int.toNat_natCast,<-r1i];exact Zbx r1 i
   rw[Za.l10_eq,wn (j:=i) (by omega),tk,r1i,hs1]
   cases flag<;>simp only[Bool.false_and,Bool.true_and,if_true]<;>((with_reducible repeat (first|refine go_p ?_|refine go_n ?_|refine go_b ?_|dsimp only));first|done|(with_reducible rfl)|simp (disch:=omega) only[w64])
  obtain⟨r', flag', k1,k2,k3,k4,k5,k6,k7⟩:=ih (i+1) r1 (flag && decide (v%best=0)) (by omega) (by omega) r1l ri.ok (by rw[r1n k (by omega),<-hf];exact hb)
  have rki:rd (row r' (i:Int)) (k:Int)=v%best:=by rw[k4 i (by omega),r1i,Fk]
  refine⟨r', flag', ?_,ri.trans k2,by rw[k3,r1n k (by omega)],λ j hj=>by rw[k4 j (by omega),r1n j (by omega)],λ j h1 h2=>?_,?_,λ h=>?_⟩
  ·
   rw[<-k1,<-fin,hr1,<-inner,Za.l9_eq];simp only[hset,tv,w1];rw[<-hx,li]
   ((with_reducible repeat (first|refine go_p ?_|refine go_n ?_|refine go_b ?_|dsimp only));first|done|(with_reducible rfl)|simp (disch:=omega) only[w64])
  ·
   by_cases e:j=i
   ·subst e;rw[rki,<-hx,<-hv]
   ·rw[k5 j (by omega) h2,r1n j e]
  ·
   rw[k6,Bool.and_eq_true,decide_eq_true_iff]
   constructor
   ·
    rintro⟨⟨q1,q2⟩,q3⟩;refine⟨q1,λ j h1 h2=>?_⟩
    by_cases e:j=i
    ·subst e;rw[rki];exact q2
    ·exact q3 j (by omega) h2
   ·rintro⟨q1,q2⟩;exact⟨⟨q1,by rw[<-rki];exact q2 i (Nat.le_refl _) (by omega)⟩,λ j h1 h2=>q2 j (by omega) h2⟩
  ·
   have v00:v=0:=by rw[hv,hx];exact h i (Nat.le_refl _) (by omega)
   have:=same v00;rw[k7 (λ j h1 h2=>by rw[r1n j (by omega)];exact h j (by omega) h2),this]
theorem Zky (m2:2<=m) (m12:m<=12) (hW:W<=1000) (hR:R<=100000) (hkR:k<R) {best:Int} (b0:0<best) (bm:best<m):∀(n c:Nat) (r:List (List Int)) (flag:Bool),c+n=W->k<c->r.length=R->Rok m W r->rd (row r (k:Int)) (k:Int)=best ->
  ∃r' flag', Za.l11 m (W:Int) (k:Int) flag (c:Int) r out best=Za.l11 m (W:Int) (k:Int) flag' (W:Int) r' out best/\RI m W R k out r r' /\ (∀i j:Nat,i<R->j<c->rd (row r' (i:Int)) (j:Int)=rd (row r (i:Int)) (j:Int))/\(∀j:Nat,c<=j->j<W->rd (row r' (k:Int)) (j:Int)=rd (row r (k:Int)) (j:Int)%best) /\
   (flag'=true↔flag=true/\∀j:Nat,c<=j->j<W->rd (row r' (k:Int)) (j:Int)=0):=by
 intro n
 induction n with
 | zero =>
  intro c r flag hc hkc hl ok hb;have:c=W:=by omega
  subst this;exact⟨r,flag,rfl,.refl hl ok,λ i j _ _=>rfl,λ j h1 h2=>by omega,⟨λ h=>⟨h,λ j h1 h2=>by omega⟩,λ h=>h.1⟩⟩
 | succ n ih =>
  intro c r flag hc hkc hl ok hb;obtain⟨lk,ak⟩:=ok k (by omega);obtain⟨v0,v1⟩:=ok.bd (i:=k) (k:=c) (by omega) (by omega);obtain⟨v,hv⟩:∃v,v=rd (row r (k:Int)) (c:Int):=⟨_,rfl⟩
  rw[<-hv]at v0 v1;have tv:T r (k:Int) (c:Int)=v:=by rw[Tn,<-hv]
  obtain⟨w1,w2,w3⟩:=w_div (x:=v) (g:=best) v0 (by omega) b0;obtain⟨t,ht⟩:∃t,t=v / best:=⟨_,rfl⟩
  rw[<-ht]at w1 w2 w3;have me:¬ m=0:=by omega
  have be:¬ best=0:=by omega
  have hset:r.set (k:Int).toNat (row r (k:Int))=r:=by rw[Int.toNat_natCast];exact Zbx r k
  have inner:=up R (λ i=>Za.l12 m (W:Int) (k:Int) flag (c:Int) t (R:Int) (i:Int) (updR (cole m k c t) r i) out best) (λ i hi=>by
   obtain⟨li,ai⟩:=ok i (by omega);have ul:=ZeT (cole m k c t) r i;have ur:=ZfE (cole m k c t) r (j:=i) (by omega);obtain⟨a0,a1⟩:=ok.bd (i:=i) (k:=c) (by omega) (by omega);obtain⟨c0,c1⟩:=ok.bd (i:=i) (k:=k) (by omega) (by omega);have tc:T (updR (cole m k c t) r i) (i:Int) (c:Int)=rd (row r (i:Int)) (c:Int):=by rw[Tn,ur]
   have tk:T (updR (cole m k c t) r i) (i:Int) (k:Int)=rd (row r (i:Int)) (k:Int):=by rw[Tn,ur]
   obtain⟨p,hp⟩:∃p,p=rd (row r (i:Int)) (c:Int):=⟨_,rfl⟩
   obtain⟨q,hq⟩:∃q,q=rd (row r (i:Int)) (k:Int):=⟨_,rfl⟩
   rw[<-hp]at a0 a1 tc;rw[<-hq]at c0 c1 tk;have tw:0<=t*q/\t*q<=12*12:=⟨Int.mul_nonneg w2 (by omega),Int.mul_le_mul (by omega) (by omega) (by omega) (by omega)⟩
   have e1:Int.tmod (wrapI (Int.tmod (wrapI (p-wrapI (t*q))) m+m)) m=(p-t*q)%m:=by rw[w64 (x:=t*q) (by omega) (by omega),w64 (x:=p-t*q) (by omega) (by omega),ZlB (by omega) (by omega) (by omega) (by omega)]
   have e2:(row r (i:Int)).set c ((p-t*q)%m)=cole m k c t (row r (i:Int)):=by rw[cole,<-hp,<-hq]
   rw[Za.l12_eq,wn (j:=i) (by omega),tc,tk,e1,ur,Int.toNat_natCast,Int.toNat_natCast,e2,ZeU _ _ (show i<r.length by omega)]
   ((with_reducible repeat (first|refine go_p ?_|refine go_n ?_|refine go_b ?_|dsimp only));first|done|(with_reducible rfl)|simp (disch:=omega) only[w64]))
  rw[ZeV,show updR (cole m k c t) r R=r.map (cole m k c t)by rw[<-hl];exact ZfD _ _]at inner
  have inner:Za.l12 m (W:Int) (k:Int) flag (c:Int) t (R:Int) 0 r out best=_:=inner;obtain⟨r1,hr1⟩:∃r1,r1=r.map (cole m k c t):=⟨_,rfl⟩
  have r1l:r1.length=R:=by rw[hr1,List.length_map];exact hl
  have r1n:∀i j:Nat,i<R->j≠c->rd (row r1 (i:Int)) (j:Int)=rd (row r (i:Int)) (j:Int):=λ i j hi hj=>by rw[hr1,Zb0 _ _ (by omega),Zg4 (by have:=(ok i (by omega)).1;omega),if_neg hj]
  have r1c:rd (row r1 (k:Int)) (c:Int)=v%best:=by have q:=Int.mul_ediv_add_emod v best;have q1:=Int.emod_nonneg v (show best≠0 by omega);have q2:=Int.emod_lt_of_pos v b0;rw[hr1,Zb0 _ _ (by omega),Zg4 (by omega),if_pos rfl,<-hv,hb,ht,Int.mul_comm (v / best) best,show v-best*(v / best)=v%best by omega];exact Int.emod_eq_of_lt (by omega) (by omega)
  have ri:RI m W R k out r r1:=by rw[hr1];exact Zox (by omega) hl ok (by omega) hkc (by omega) t
  obtain⟨lk1,_⟩:=ri.ok k (by omega);have fin:Za.l12 m (W:Int) (k:Int) flag (c:Int) t (R:Int) (R:Int) r1 out best=Za.l11 m (W:Int) (k:Int) (flag && decide (v%best=0)) ((c+1:Nat):Int) r1 out best:=by
   have tk:T r1 (k:Int) (c:Int)=v%best:=by rw[Tn,r1c]
   have hs1:r1.set (k:Int).toNat (row r1 (k:Int))=r1:=by rw[Int.toNat_natCast];exact Zbx r1 k
   rw[Za.l12_eq,wn (j:=c) (by omega),tk];simp only[hs1]
   cases flag<;>simp only[Bool.false_and,Bool.true_and,if_true]<;>((with_reducible repeat (first|refine go_p ?_|refine go_n ?_|refine go_b ?_|dsimp only));first|done|(with_reducible rfl)|simp (disch:=omega) only[w64])
  obtain⟨r', flag', k1,k2,k3,k4,k5⟩:=ih (c+1) r1 (flag && decide (v%best=0)) (by omega) (by omega) r1l ri.ok (by rw[r1n k k (by omega) (by omega)];exact hb)
  have rkc:rd (row r' (k:Int)) (c:Int)=v%best:=by rw[k3 k c (by omega) (by omega),r1c]
  refine⟨r', flag', ?_,ri.trans k2,λ i j hi hj=>by rw[k3 i j hi (by omega),r1n i j hi (by omega)],λ j h1 h2=>?_,?_⟩
  ·
   rw[<-k1,<-fin,hr1,<-inner,Za.l11_eq];simp only[hset,tv,w1,hl]
   ((with_reducible repeat (first|refine go_p ?_|refine go_n ?_|refine go_b ?_|dsimp only));first|done|(with_reducible rfl)|simp (disch:=omega) only[w64])
  ·
   by_cases e:j=c
   ·subst e;rw[rkc,<-hv]
   ·rw[k4 j (by omega) h2,r1n k j (by omega) e]
  ·
   rw[k5,Bool.and_eq_true,decide_eq_true_iff]
   constructor
   ·
    rintro⟨⟨q1,q2⟩,q3⟩;refine⟨q1,λ j h1 h2=>?_⟩
    by_cases e:j=c
    ·subst e;rw[rkc];exact q2
    ·exact q3 j (by omega) h2
   ·rintro⟨q1,q2⟩;exact⟨⟨q1,by rw[<-rkc];exact q2 c (Nat.le_refl _) (by omega)⟩,λ j h1 h2=>q2 j (by omega) h2⟩
end
section
variable {m:Int} {W R k:Nat} {out:List Int}
theorem ZmM (m2:2<=m) (m12:m<=12) (hW:W<=1000) (hR:R<=100000) {r:List (List Int)} (hl:r.length=R) (ok:Rok m W r) {i:Nat} (hki:k<i) (hi:i<R) (best:Int) :
  Za.l14 m (W:Int) (k:Int) (i:Int) (W:Int) 0 r out best=Za.l13 m (W:Int) (k:Int) false ((i+1:Nat):Int) (r.set k (mix m 1 (row r (k:Int)) 1 (row r (i:Int)))) out best:=by
 obtain⟨li,ai⟩:=ok i (by omega);obtain⟨lk,ak⟩:=ok k (by omega);obtain⟨x,hx⟩:∃x,x=row r (k:Int):=⟨_,rfl⟩
 obtain⟨f,hf⟩:∃f,f=row r (i:Int):=⟨_,rfl⟩
 rw[<-hx]at lk ak ⊢;rw[<-hf]at li ai ⊢;obtain⟨F,hF⟩:∃F,F=mix m 1 x 1 f:=⟨_,rfl⟩
 rw[<-hF];have Fl:F.length=x.length:=by rw[hF,Zbl]
 have me:¬ m=0:=by omega
 have inner:=up W (λ c=>Za.l14 m (W:Int) (k:Int) (i:Int) (W:Int) (c:Int) (r.set k (upd1 F x c)) out best) (λ c hc=>by
  obtain⟨a0,a1⟩:=ai (c:Int) (by omega) (by omega);obtain⟨c0,c1⟩:=ak (c:Int) (by omega) (by omega);have sl:(r.set k (upd1 F x c)).length=R:=by rw[List.length_set];omega
  have sr:row (r.set k (upd1 F x c)) (k:Int)=upd1 F x c:=ZaX (by omega);have si:row (r.set k (upd1 F x c)) (i:Int)=f:=by rw[Zbm (by omega)];exact hf.symm
  have l1:=ZeS Fl c;have tvc:T (r.set k (upd1 F x c)) (k:Int) (c:Int)=rd x (c:Int):=by rw[Tn,sr,Zgo Fl (by omega)]
  have tic:T (r.set k (upd1 F x c)) (i:Int) (c:Int)=rd f (c:Int):=by rw[Tn,si]
  have e1:Int.tmod (wrapI (rd x (c:Int)+rd f (c:Int))) m=rd F (c:Int):=by rw[w64 (by omega) (by omega),Zcc (by omega),hF,ZbT (by omega),Int.one_mul,Int.one_mul]
  have hsi:(r.set k (upd1 F x c)).set (i:Int).toNat f=r.set k (upd1 F x c):=by rw[Int.toNat_natCast,<-si];exact Zbx _ i
  rw[Za.l14_eq,wn (j:=c) (by omega),tvc,tic,e1,sr,si,hsi,Int.toNat_natCast,Int.toNat_natCast,Zd2 Fl (by omega)];simp only[List.set_set,if_true]
  ((with_reducible repeat (first|refine go_p ?_|refine go_n ?_|refine go_b ?_|dsimp only));first|done|(with_reducible rfl)|simp (disch:=omega) only[w64]))
 rw[Zd3,show upd1 F x W=F by rw[<-lk];exact ZeR Fl,show r.set k x=r by rw[hx];exact Zbx r k]at inner
 have inner:Za.l14 m (W:Int) (k:Int) (i:Int) (W:Int) 0 r out best=_:=inner;rw[inner,Za.l14_eq,wn (j:=i) (by omega)]
 ((with_reducible repeat (first|refine go_p ?_|refine go_n ?_|refine go_b ?_|dsimp only));first|done|(with_reducible rfl)|simp (disch:=omega) only[w64])
theorem diag_last (m2:2<=m) (m12:m<=12) (hW:W<=1000) (hR:R<=100000) (ho:out.length<=1000) {best:Int} (b0:0<best) {r:List (List Int)} (hl:r.length=R) (ok:Rok m W r) (hkR:k<R):∀(n i:Nat),i+n=R->k<i->(∀j c:Nat,k<j->j<i->c<W->best∣rd (row r (j:Int)) (c:Int)) ->
  (∃j c:Nat,k<j/\j<R/\c<W/\¬ best∣rd (row r (j:Int)) (c:Int)/\Za.l13 m (W:Int) (k:Int) true (i:Int) r out best=Za.l2 m (W:Int) (r.set k (mix m 1 (row r (k:Int)) 1 (row r (j:Int)))) out) \/
  ((∀j c:Nat,k<j->j<R->c<W->best∣rd (row r (j:Int)) (c:Int))/\Za.l13 m (W:Int) (k:Int) true (i:Int) r out best=Za.l2 m (W:Int) r (out++[best])):=by
 intro n
 induction n with
 | zero =>
  intro i hi hki h;refine .inr ⟨λ j c h1 h2 h3=>h j c h1 (by omega) h3,?_⟩;have l1:([best]:List Int).length=1:=rfl;rw[Za.l13_eq]
  ((with_reducible repeat (first|refine go_p ?_|refine go_n ?_|refine go_b ?_|dsimp only));first|done|(with_reducible rfl)|simp (disch:=omega) only[w64])
 | succ n ih =>
  intro i hi hki h;obtain⟨li,ai⟩:=ok i (by omega);have be:¬ best=0:=by omega
  have hset:r.set (i:Int).toNat (row r (i:Int))=r:=by rw[Int.toNat_natCast];exact Zbx r i
  have hF:∀x∈row r (i:Int),((λ z0=>((λ z0=>(ZaH.f z0 best).map λ z=>z) z0).map λ z=>z):Int->Option Bool) x=some ((λ x=>!decide (Int.tmod x best=0)) x):=λ x hx=>by
   show((ZaH.f x best).map λ z=>z).map (λ z=>z)=_;rw[ZaH.f_eq,if_neg be]
   rfl
  have mem:∀c:Nat,c<W->rd (row r (i:Int)) (c:Int)∈row r (i:Int):=λ c hc=>ZbU (by omega) (by omega)
  rcases indexFuncI (row r (i:Int)) (by omega) hF with ⟨q1,q2⟩|⟨c,q1,q2,q3,q4⟩
  ·
   have hC:ZJ.f (row r (i:Int)) (λ z0=>(ZaH.f z0 best).map λ z=>z)=some false:=by
    rw[ZJ.f_eq,q2]
    rfl
   have hd:∀c:Nat,c<W->best∣rd (row r (i:Int)) (c:Int):=λ c hc=>by have:=q1 _ (mem c hc);rw[Bool.not_eq_false', decide_eq_true_iff]at this;exact Int.dvd_of_tmod_eq_zero this
   have step:Za.l13 m (W:Int) (k:Int) true (i:Int) r out best=Za.l13 m (W:Int) (k:Int) true ((i+1:Nat):Int) r out best:=by
    rw[Za.l13_eq,wn (j:=i) (by omega),hC,Option.bind_some];simp only[hset,if_true,Bool.false_eq_true,if_false]
    ((with_reducible repeat (first|refine go_p ?_|refine go_n ?_|refine go_b ?_|dsimp only));first|done|(with_reducible rfl)|simp (disch:=omega) only[w64])
   rw[step];exact ih (i+1) (by omega) (by omega) λ j c h1 h2 h3=>by
    by_cases e:j=i
    ·subst e;exact hd c h3
    ·exact h j c h1 (by omega) h3
  ·
   have hC:ZJ.f (row r (i:Int)) (λ z0=>(ZaH.f z0 best).map λ z=>z)=some true:=by rw[ZJ.f_eq,q4];simp
   have nd:¬ best∣rd (row r (i:Int)) (c:Int):=λ hd=>by have q2:(!decide (Int.tmod (rd (row r (i:Int)) (c:Int)) best=0))=true:=q2;rw[Bool.not_eq_true', decide_eq_false_iff_not]at q2;exact q2 (Int.tmod_eq_zero_of_dvd hd)
   refine .inl ⟨i,c,hki,by omega,by omega,nd,?_⟩;obtain⟨r1,hr1⟩:∃r1,r1=r.set k (mix m 1 (row r (k:Int)) 1 (row r (i:Int))):=⟨_,rfl⟩
   have hp:=ZmM (out:=out) m2 m12 hW hR hl ok hki (by omega) best;have hks:r.set (k:Int).toNat (row r (k:Int))=r:=by rw[Int.toNat_natCast];exact Zbx r k
   have lk:=(ok k (by omega)).1;have fin:Za.l13 m (W:Int) (k:Int) false ((i+1:Nat):Int) r1 out best=Za.l2 m (W:Int) r1 out:=by
    have l1:([best]:List Int).length=1:=rfl;rw[Za.l13_eq];simp only[Bool.false_eq_true,if_false]
    split<;>rfl
   rw[<-hr1]at hp ⊢;rw[<-fin,<-hp,Za.l13_eq,hC,Option.bind_some];simp only[hset,if_true,hks];rw[lk]
   ((with_reducible repeat (first|refine go_p ?_|refine go_n ?_|refine go_b ?_|dsimp only));first|done|(with_reducible rfl)|simp (disch:=omega) only[w64])
theorem Zkz (hW:W<=1000) {r:List (List Int)}:∀(n:Nat) (out:List Int),out.length+n=W->Za.l5 m (W:Int) r out=some (out++List.replicate n m,r):=by
 intro n
 induction n with
 | zero =>
  intro out ho;rw[Za.l5_eq,List.replicate_zero,List.append_nil]
  ((with_reducible repeat (first|refine go_p ?_|refine go_n ?_|refine go_b ?_|dsimp only));first|done|(with_reducible rfl)|simp (disch:=omega) only[w64])
 | succ n ih =>
  intro out ho;have l1:([m]:List Int).length=1:=rfl;have:=ih (out++[m]) (by rw[List.length_append,l1];omega);rw[Za.l5_eq,this,List.append_assoc,List.replicate_succ,List.singleton_append]
  ((with_reducible repeat (first|refine go_p ?_|refine go_n ?_|refine go_b ?_|dsimp only));first|done|(with_reducible rfl)|simp (disch:=omega) only[w64])
theorem Zlu (m2:2<=m) (m12:m<=12) (hW:W<=1000) (hR:R<=100000) {r:List (List Int)} (hl:r.length=R) (ok:Rok m W r):∀(n:Nat) (out:List Int),out.length+n=W->(∀i c:Nat,out.length<=i->i<R->out.length<=c->c<W->rd (row r (i:Int)) (c:Int)=0)->Za.l2 m (W:Int) r out=some (out++List.replicate n m,r):=by
 intro n
 induction n with
 | zero =>
  intro out ho _;rw[Za.l2_eq,List.replicate_zero,List.append_nil]
  ((with_reducible repeat (first|refine go_p ?_|refine go_n ?_|refine go_b ?_|dsimp only));first|done|(with_reducible rfl)|simp (disch:=omega) only[w64])
 | succ n ih =>
  intro out ho h;have l1:([m]:List Int).length=1:=rfl;have la:(out++[m]).length=out.length+1:=by rw[List.length_append,l1]
  obtain⟨x,y,best,k1,k2⟩:=ZhX m2 m12 hW hR hl ok (k:=out.length) (by omega) out;rcases k2 with ⟨h1,h2,h3⟩|⟨A,C,h1,h2,⟨h3,h4,h5,h6⟩,h7,h8⟩
  ·
   subst h1;have r1:=ih (out++[m]) (by rw[la];omega) λ i c a1 a2 a3 a4=>by rw[la]at a1 a3;exact h i c (by omega) a2 (by omega) a4
   have r2:=Zkz (m:=m) hW (r:=r) n (out++[m]) (by rw[la];omega)
   have e:out++[m]++List.replicate n m=out++List.replicate (n+1) m:=by rw[List.append_assoc,List.replicate_succ,List.singleton_append]
   rw[e]at r1 r2;have s1:Za.l2 m (W:Int) r out=Za.l3 m (W:Int) (out.length:Int) (-1) (-1) (out.length:Int) r out m:=by
    rw[Za.l2_eq]
    ((with_reducible repeat (first|refine go_p ?_|refine go_n ?_|refine go_b ?_|dsimp only));first|done|(with_reducible rfl)|simp (disch:=omega) only[w64])
   rw[s1,k1,Za.l3_eq,r1,r2]
   by_cases q:out.length<R
   ·((with_reducible repeat (first|refine go_p ?_|refine go_n ?_|refine go_b ?_|dsimp only));first|done|(with_reducible rfl)|simp (disch:=omega) only[w64])
   ·((with_reducible repeat (first|refine go_p ?_|refine go_n ?_|refine go_b ?_|dsimp only));first|done|(with_reducible rfl)|simp (disch:=omega) only[w64])
  ·exact absurd (h A C h3 h4 h5 h6) h7
structure DI (m:Int) (W R k:Nat) (out:List Int) (X r:List (List Int)):Prop where
 len:r.length=R
 ok:Rok m W r
 oo:OutOk m W k out
 kW:k<=W
 kR:k<=R
 eqd:Eqd m W (Mx m W X) (Mx m W (Lm W out r k))
 zer:∀i c:Nat,k<=i->i<R->c<k->rd (row r (i:Int)) (c:Int)=0
 dv:∀n∈out,∀i c:Nat,k<=i->i<R->c<W->n∣rd (row r (i:Int)) (c:Int)
 pw:out.Pairwise λ a b=>a∣b
theorem DI.ri {X r r' : List (List Int)} (h:DI m W R k out X r) (i:RI m W R k out r r'):DI m W R k out X r':=
 ⟨i.len,i.ok,h.oo,h.kW,h.kR,h.eqd.trans i.eqd,i.zer h.zer,λ n hn=>i.dv n (h.oo.ent n hn).2.2 (h.dv n hn),h.pw⟩
def Pp (m:Int) (W R k:Nat) (r:List (List Int)) (g:Nat):Prop:=∃i c:Nat,k<=i/\i<R/\k<=c/\c<W/\¬ rd (row r (i:Int)) (c:Int)=0/\Int.gcd (rd (row r (i:Int)) (c:Int)) m<=g
structure Qq (m:Int) (W R k:Nat) (r:List (List Int)) (g:Nat):Prop where
 at_:rd (row r (k:Int)) (k:Int)=(g:Int)
 pos:0<g
 dvd:(g:Int)∣m
 col:∀i:Nat,k<i->i<R->rd (row r (i:Int)) (k:Int)=0
 row:∃c:Nat,k<c/\c<W/\¬ (g:Int)∣rd (row r (k:Int)) (c:Int)
theorem Pp.of {r:List (List Int)} (ok:Rok m W r) (hl:r.length=R) {i c g:Nat} (h1:k<=i) (h2:i<R) (h3:k<=c) (h4:c<W) (h5:¬ rd (row r (i:Int)) (c:Int)=0) (h6:rd (row r (i:Int)) (c:Int)<(g:Int)):Pp m W R k r (g-1):=by obtain⟨a0,a1⟩:=ok.bd (i:=i) (k:=c) (by omega) h4;have:((Int.gcd (rd (row r (i:Int)) (c:Int)) m:Nat):Int)<=rd (row r (i:Int)) (c:Int):=Int.le_of_dvd (by omega) (Int.gcd_dvd_left ..);exact⟨i,c,h1,h2,h3,h4,h5,by omega⟩
theorem ZkA (m2:2<=m) (m12:m<=12) (hW:W<=1000) (hR:R<=100000) {X r:List (List Int)} (h:DI m W R k out X r) (hk:k<W) (hne:∃i c:Nat,k<=i/\i<R/\k<=c/\c<W/\¬ rd (row r (i:Int)) (c:Int)=0) :
  ∃(b:Nat) (r' : List (List Int)),0<b/\(∀g,Pp m W R k r g->b<=g)/\((Za.l2 m (W:Int) r out=Za.l2 m (W:Int) r' out/\DI m W R k out X r' /\ (Pp m W R k r' (b-1)\/(Qq m W R k r' b/\¬ Qq m W R k r b))) \/
   (Za.l2 m (W:Int) r out=Za.l2 m (W:Int) r' (out++[(b:Int)])/\DI m W R (k+1) (out++[(b:Int)]) X r')):=by
 have ol:=h.oo.len;have hl:=h.len;have ok:=h.ok;obtain⟨x,y,best,k1,k2⟩:=ZhX m2 m12 hW hR hl ok (k:=k) hk out;rcases k2 with ⟨h1,h2,h3⟩|⟨A,C,h1,h2,⟨h3,h4,h5,h6⟩,h7,h8,h9,h10⟩
 ·obtain⟨i,c,q1,q2,q3,q4,q5⟩:=hne;exact absurd (h3 i c ⟨q1,q2,q3,q4⟩) q5
 subst h1;subst h2
 obtain⟨b,hb⟩:∃b,b=Int.gcd (rd (row r (A:Int)) (C:Int)) m:=⟨_,rfl⟩
 rw[<-hb]at h8;subst h8;obtain⟨v0,v1⟩:=ok.bd (i:=A) (k:=C) (by omega) h6;have b0:0<b:=by rw[hb];exact Int.gcd_pos_of_ne_zero_left m h7
 have bv:(b:Int)<=rd (row r (A:Int)) (C:Int):=by rw[hb];exact Int.le_of_dvd (by omega) (Int.gcd_dvd_left ..)
 have bm:(b:Int)∣m:=by rw[hb];exact Int.gcd_dvd_right ..
 obtain⟨r1,hr1⟩:∃r1,r1=(r.set k (row r (A:Int))).set A (row r (k:Int)):=⟨_,rfl⟩
 have i1:RI m W R k out r r1:=by rw[hr1];exact Zoy hl ok h.kR (Nat.le_refl _) (by omega) h3 h4
 obtain⟨r2,hr2⟩:∃r2,r2=r1.map (swk k C):=⟨_,rfl⟩
 have i2:RI m W R k out r r2:=i1.trans (by rw[hr2];exact Zpd (by omega) i1.len i1.ok h.kR hk h5 h6)
 have r1k:row r1 (k:Int)=row r (A:Int):=by
  by_cases e:k=A
  ·rw[hr1,<-e];exact ZaX (by rw[List.length_set];omega)
  ·rw[hr1,Zbm e];exact ZaX (by omega)
 have hx:rd (row r (A:Int)) (C:Int)=rd (row r2 (k:Int)) (k:Int):=by
  have:=(i1.ok k (by have:=i1.len;omega)).1
  rw[hr2,Zb0 _ _ (by have:=i1.len;omega),Zmt (by omega) (by omega),r1k]
  split
  ·rename_i e;rw[<-e]
  ·rw[if_pos rfl]
 have start:Za.l2 m (W:Int) r out=Za.l6 m (W:Int) (k:Int) (C:Int) (R:Int) 0 r1 out (b:Int):=by
  have s1:Za.l2 m (W:Int) r out=Za.l3 m (W:Int) (k:Int) (-1) (-1) (k:Int) r out m:=by
   rw[Za.l2_eq,ol]
   ((with_reducible repeat (first|refine go_p ?_|refine go_n ?_|refine go_b ?_|dsimp only));first|done|(with_reducible rfl)|simp (disch:=omega) only[w64])
  rw[s1,k1,Za.l3_eq]
  by_cases e:k=A
  ·
   have e1:r.set (A:Int).toNat (row r (A:Int))=r:=by rw[Int.toNat_natCast];exact Zbx r A
   have e2:r1=r:=by rw[hr1,<-e,Zbx,Zbx]
   simp only[e1,hl,e2]
   ((with_reducible repeat (first|refine go_p ?_|refine go_n ?_|refine go_b ?_|dsimp only));first|done|(with_reducible rfl)|simp (disch:=omega) only[w64])
  ·
   have e1:(r.set (k:Int).toNat (row r (A:Int))).set (A:Int).toNat (row r (k:Int))=r1:=by rw[hr1,Int.toNat_natCast,Int.toNat_natCast]
   have e2:=i1.len;simp only[e1,e2]
   ((with_reducible repeat (first|refine go_p ?_|refine go_n ?_|refine go_b ?_|dsimp only));first|done|(with_reducible rfl)|simp (disch:=omega) only[w64])
 rw[Zlt hW hR i1.len i1.ok hk h6 (b:Int),<-hr2]at start;obtain⟨u,⟨u1,u2⟩,u3,u4,u5,u6⟩:=Zly (out:=out) (best:=(b:Int)) m2 m12 hW hR i2.len i2.ok hk (by omega) hx h7 (by rw[hb]);rw[u6,ZkB m2 m12 hW hR i2.len i2.ok hk (by omega) u1 u2]at start;obtain⟨v,huv⟩:=ZhF m2 m12 (by omega) u2 u3;obtain⟨r3,hr3⟩:∃r3,r3=r2.set k (mix m u (row r2 (k:Int)) 0 (row r2 (k:Int))):=⟨_,rfl⟩
 have i3:RI m W R k out r r3:=i2.trans (by rw[hr3];exact Zoz (by omega) i2.len i2.ok h.oo h.kR (Nat.le_refl _) (by omega) huv)
 rw[<-hr3]at start;have lk2:=(i2.ok k (by have:=i2.len;omega)).1;have c3:rd (row r3 (k:Int)) (k:Int)=(b:Int):=by rw[hr3,ZaX (by have:=i2.len;omega),ZbT (by omega),<-hx,Int.zero_mul,Int.add_zero,Int.mul_comm];exact u4
 obtain⟨r4,f4,a1,a2,a3,a4,a5,a6,a7⟩:=Zlw m2 m12 hW hR hk h.oo (best:=(b:Int)) (by omega) (by omega) (R-(k+1)) (k+1) r3 true (by omega) (by omega) i3.len i3.ok c3;have i4:=i3.trans a2;obtain⟨r5,f5,b1,b2,b3,b4,b5⟩:=Zky (k:=k) (out:=out) m2 m12 hW hR (by omega) (best:=(b:Int)) (by omega) (by omega) (W-(k+1)) (k+1) r4 f4 (by omega) (by omega) i4.len i4.ok (by rw[a3];exact c3);have i5:=i4.trans b2;rw[a1,b1]at start;have hmin:∀g,Pp m W R k r g->b<=g:=λ g ⟨i,c,q1,q2,q3,q4,q5,q6⟩=>by have:=h9 i c ⟨q1,q2,q3,q4⟩ q5;omega
 have hQ:Qq m W R k r b->∃c:Nat,k<c/\c<W/\¬ rd (row r5 (k:Int)) (c:Int)=0:=λ q=>by
  have e:A=k/\C=k:=h10 ⟨Nat.le_refl _,by omega,Nat.le_refl _,hk⟩ (by rw[q.at_];omega) (by rw[q.at_];exact Int.le_of_dvd (by omega) (Int.gcd_dvd_left ..))
  obtain⟨e1,e2⟩:=e;subst e1;have g1:r1=r:=by rw[hr1,Zbx,Zbx]
  have g2:r2=r:=by rw[hr2,g1,e2,show swk A A=id from funext λ x=>Zki A x,List.map_id]
  have g3:r3=r:=by
   rw[hr3,g2,u5 (by rw[e2];exact q.at_)]
   have:mix m 1 (row r (A:Int)) 0 (row r (A:Int))=row r (A:Int):=Zj2 (ok A (by omega)).2;rw[this,Zbx]
  obtain⟨c,w1,w2,w3⟩:=q.row;refine⟨c,w1,w2,λ w=>w3 ?_⟩;rw[b4 c (by omega) w2,a3,g3]at w;exact Int.dvd_of_emod_eq_zero w
 have below:∀i:Nat,k<i->i<R->rd (row r5 (i:Int)) (k:Int)=rd (row r3 (i:Int)) (k:Int)%(b:Int):=λ i q1 q2=>by rw[b3 i k q2 (by omega),a5 i (by omega) q2]
 have right:∀c:Nat,k<c->c<W->rd (row r5 (k:Int)) (c:Int)=rd (row r3 (k:Int)) (c:Int)%(b:Int):=λ c q1 q2=>by rw[b4 c (by omega) q2,a3]
 have corner:rd (row r5 (k:Int)) (k:Int)=(b:Int):=by rw[b3 k k (by omega) (by omega),a3];exact c3
 have bpos:0<(b:Int):=by omega
 have exitP:(∃i c:Nat,k<=i/\i<R/\k<=c/\c<W/\¬ rd (row r5 (i:Int)) (c:Int)=0/\rd (row r5 (i:Int)) (c:Int)<(b:Int))->Pp m W R k r5 (b-1):=λ⟨i,c,q1,q2,q3,q4,q5,q6⟩=>.of i5.ok i5.len q1 q2 q3 q4 q5 q6
 cases f5 with
 | false =>
  refine⟨b,r5,b0,hmin,.inl ⟨?_,h.ri i5,.inl (exitP ?_)⟩⟩
  ·
   rw[start,Za.l11_eq]
   ((with_reducible repeat (first|refine go_p ?_|refine go_n ?_|refine go_b ?_|dsimp only));first|done|(with_reducible rfl)|simp (disch:=omega) only[w64])
  ·
   by_cases z1:∀i:Nat,k<i->i<R->rd (row r5 (i:Int)) (k:Int)=0
   ·
    by_cases z2:∀c:Nat,k<c->c<W->rd (row r5 (k:Int)) (c:Int)=0
    ·
     exfalso
     have:f4=true:=a6.2 ⟨rfl,λ j q1 q2=>by rw[<-b3 j k q2 (by omega)];exact z1 j (by omega) q2⟩
     have:=b5.2 ⟨this,λ j q1 q2=>z2 j (by omega) q2⟩
     cases this
    ·obtain⟨c,hc⟩:=Classical.not_forall.1 z2;obtain⟨q1,hc⟩:=Classical.not_imp.1 hc;obtain⟨q2,hc⟩:=Classical.not_imp.1 hc;exact⟨k,c,Nat.le_refl _,by omega,by omega,q2,hc,by rw[right c q1 q2];exact Int.emod_lt_of_pos _ bpos⟩
   ·obtain⟨i,hi⟩:=Classical.not_forall.1 z1;obtain⟨q1,hi⟩:=Classical.not_imp.1 hi;obtain⟨q2,hi⟩:=Classical.not_imp.1 hi;exact⟨i,k,by omega,q2,Nat.le_refl _,hk,hi,by rw[below i q1 q2];exact Int.emod_lt_of_pos _ bpos⟩
 | true =>
  obtain⟨t1,t2⟩:=b5.1 rfl;obtain⟨_,t3⟩:=a6.1 t1;have z1:∀i:Nat,k<i->i<R->rd (row r5 (i:Int)) (k:Int)=0:=λ i q1 q2=>by rw[b3 i k q2 (by omega)];exact t3 i (by omega) q2
  have z2:∀c:Nat,k<c->c<W->rd (row r5 (k:Int)) (c:Int)=0:=λ c q1 q2=>t2 c (by omega) q2
  have nQ:¬ Qq m W R k r b:=λ q=>by obtain⟨c,q1,q2,q3⟩:=hQ q;exact q3 (z2 c q1 q2)
  have D5:=h.ri i5;have start2:Za.l2 m (W:Int) r out=Za.l13 m (W:Int) (k:Int) true ((k+1:Nat):Int) r5 out (b:Int):=by
   rw[start,Za.l11_eq,wn (j:=k) (by omega)]
   ((with_reducible repeat (first|refine go_p ?_|refine go_n ?_|refine go_b ?_|dsimp only));first|done|(with_reducible rfl)|simp (disch:=omega) only[w64])
  rcases diag_last (k:=k) (out:=out) (best:=(b:Int)) m2 m12 hW hR (by omega) bpos i5.len i5.ok (by omega) (R-(k+1)) (k+1) (by omega) (by omega) (λ j c q1 q2 q3=>by omega)with ⟨j,c,q1,q2,q3,q4,q5⟩|⟨q1,q2⟩
  ·
   have i6:RI m W R k out r5 (r5.set k (mix m 1 (row r5 (k:Int)) 1 (row r5 (j:Int)))):=ZnE (by omega) i5.len i5.ok h.oo h.kR (Nat.le_refl _) (by omega) (by omega) q2 (by omega) 1;obtain⟨lk5,_⟩:=i5.ok k (by have:=i5.len;omega);have e:∀c:Nat,c<W->rd (row (r5.set k (mix m 1 (row r5 (k:Int)) 1 (row r5 (j:Int)))) (k:Int)) (c:Int)=(rd (row r5 (k:Int)) (c:Int)+rd (row r5 (j:Int)) (c:Int))%m:=λ c hc=>by rw[ZaX (by have:=i5.len;omega),ZbT (by omega),Int.one_mul,Int.one_mul]
   refine⟨b,_,b0,hmin,.inl ⟨start2.trans q5,D5.ri i6,.inr ⟨⟨?_,b0,bm,λ i w1 w2=>?_,c,?_,q3,?_⟩,nQ⟩⟩⟩
   ·rw[e k hk,corner,z1 j q1 q2,Int.add_zero];exact Int.emod_eq_of_lt (by omega) (by omega)
   ·rw[Zbm (by omega)];exact z1 i w1 w2
   ·
    by_cases w1:c<k
    ·exact absurd (by rw[D5.zer j c (by omega) q2 w1];exact Int.dvd_zero _) q4
    ·
     by_cases w2:c=k
     ·exact absurd (by rw[w2,z1 j q1 q2];exact Int.dvd_zero _) q4
     ·omega
   ·
    intro hd;rw[e c q3]at hd
    apply q4
    have w1:rd (row r5 (k:Int)) (c:Int)=0:=by
     by_cases w1:c<k
     ·exact D5.zer k c (Nat.le_refl _) (by omega) w1
     ·
      by_cases w2:c=k
      ·exact absurd (by rw[w2,z1 j q1 q2];exact Int.dvd_zero _) q4
      ·exact z2 c (by omega) q3
    obtain⟨w2,w3⟩:=i5.ok.bd (i:=j) (k:=c) (by have:=i5.len;omega) q3
    rwa[w1,Int.zero_add,Int.emod_eq_of_lt w2 w3]at hd
  ·
   refine⟨b,r5,b0,hmin,.inr ⟨start2.trans q2,?_⟩⟩;have l1:([(b:Int)]:List Int).length=1:=rfl;have la:(out++[(b:Int)]).length=k+1:=by rw[List.length_append,l1,ol]
   have r5l:=i5.len;have rowk:row r5 (k:Int)=dgr W k (b:Int):=by
    obtain⟨w1,w2⟩:=i5.ok k (by omega);refine ZgA (by rw[w1,Zls]) λ i i0 i1=>?_
    obtain⟨n,rfl⟩:=Int.eq_ofNat_of_zero_le i0;rw[ZjL hk]
    split
    ·rename_i e;rw[e];exact corner
    ·
     by_cases w3:n<k
     ·exact D5.zer k n (Nat.le_refl _) (by omega) w3
     ·exact z2 n (by omega) (by omega)
   have eqL:Lm W (out++[(b:Int)]) r5 (k+1)=Lm W out r5 k:=by
    refine Zn5 (by rw[ZcQ (by omega),ZcQ (by omega)]) λ i i0 i1=>?_
    rw[ZcQ (by omega)]at i1;obtain⟨n,rfl⟩:=Int.eq_ofNat_of_zero_le i0;rw[ZdC (by omega) (by omega),ZdC (by omega) (by omega)]
    by_cases w:n<k
    ·rw[if_pos (by omega),if_pos w,ZnD (by omega)]
    ·
     rw[if_neg w]
     by_cases w2:n=k
     ·rw[if_pos (by omega),w2,rowk,<-ol,Zji]
     ·rw[if_neg (by omega)]
   refine⟨r5l,i5.ok,⟨la,λ n hn=>?_⟩,hk,by omega,by rw[eqL];exact D5.eqd,λ i c w1 w2 w3=>?_,λ n hn i c w1 w2 w3=>?_,?_⟩
   ·
    rcases List.mem_append.1 hn with hn|hn
    ·exact h.oo.ent n hn
    ·rw[List.mem_singleton]at hn;subst hn;exact⟨bpos,by omega,bm⟩
   ·
    by_cases w4:c=k
    ·rw[w4];exact z1 i (by omega) w2
    ·exact D5.zer i c (by omega) w2 (by omega)
   ·
    rcases List.mem_append.1 hn with hn|hn
    ·exact D5.dv n hn i c (by omega) w2 w3
    ·rw[List.mem_singleton]at hn;subst hn;exact q1 i c (by omega) w2 w3
   ·rw[List.pairwise_append];refine⟨h.pw,List.pairwise_singleton ..,λ a ha z hz=>?_⟩;rw[List.mem_singleton]at hz;rw[hz,<-corner];exact D5.dv a ha k k (Nat.le_refl _) (by omega) hk
end
theorem ZiT {m:Int} {W:Nat} {ns:List Int} (h:∀n∈ns,n∣m) (hl:ns.length=W):Sub m W (λ x=>∀i,i<W->rd ns (i:Int)∣x i):=
 ⟨λ i _=>Int.dvd_zero _,λ x y hx hy c i hi=>Int.dvd_add (hx i hi) (Int.dvd_mul_of_dvd_right (hy i hi)),λ x y hx k i hi=>by have:=Int.dvd_sub (hx i hi) (Int.dvd_trans (h _ (ZbU (i:=(i:Int)) (xs:=ns) (by omega) (by omega))) (k i hi));rwa[show x i-(x i-y i)=y i by omega]at this⟩
theorem Dg.of {m:Int} (m0:0<m):∀(ns:List Int) (W:Nat) (M:Vc->Prop),ns.length=W->(∀n∈ns,0<n/\n∣m)->(∀x,M x↔∀i,i<W->rd ns (i:Int)∣x i)->Dg m W M ns
 | [],W,M,hl,hn,h=>by have:W=0:=hl.symm;subst this;exact .nil m0 (by rw[show M=λ x=>∀i:Nat,i<0->rd [] (i:Int)∣x i from funext λ x=>propext (h x)];exact ZiT (λ n hn=>by cases hn) rfl)
 | n :: ns,W,M,hl,hn,h=>by
  rw[List.length_cons]at hl;subst hl;have s:∀i:Nat,rd (n :: ns) ((i+1:Nat):Int)=rd ns (i:Int):=λ i=>by rw[Zcu,Zcu];rfl
  refine .cons m0 (hn n (List.mem_cons_self ..)).2 (hn n (List.mem_cons_self ..)).1 (M':=λ x=>∀i,i<ns.length->rd ns (i:Int)∣x i) (ZiT (λ n h=>(hn n (List.mem_cons_of_mem _ h)).2) rfl) (λ x=>?_) (Dg.of m0 ns ns.length _ rfl (λ n h=>hn n (List.mem_cons_of_mem _ h)) λ x=>Iff.rfl);rw[h x]
  constructor
  ·intro k;exact⟨k 0 (by omega),λ i hi=>by have:=k (i+1) (by omega);rwa[s]at this⟩
  ·
   rintro⟨k1,k2⟩ i hi
   cases i with
   | zero=>exact k1
   | succ i=>rw[s];exact k2 i (by omega)
section
variable {m:Int} {W R k:Nat} {out:List Int}
theorem Lm_dg (m0:0<m) {r:List (List Int)} (ho:OutOk m W k out) (hkW:k<=W) (hkR:k<=r.length) (hz:∀i c:Nat,k<=i->i<r.length->c<W->rd (row r (i:Int)) (c:Int)=0):Dg m W (Mx m W (Lm W out r k)) (out++List.replicate (W-k) m):=by
 have ol:=ho.len;have e1:∀i:Nat,i<k->rd (out++List.replicate (W-k) m) (i:Int)=rd out (i:Int):=λ i hi=>by rw[Zcu,Zcu,List.getD_eq_getElem?_getD,List.getD_eq_getElem?_getD,List.getElem?_append_left (by omega)]
 have e2:∀i:Nat,k<=i->i<W->rd (out++List.replicate (W-k) m) (i:Int)=m:=λ i h1 h2=>by rw[Zcu,List.getD_eq_getElem?_getD,List.getElem?_append_right (by omega),List.getElem?_replicate,if_pos (by omega)];rfl
 have hn:∀n∈out++List.replicate (W-k) m,0<n/\n∣m:=λ n hn=>by
  rcases List.mem_append.1 hn with hn|hn
  ·exact⟨(ho.ent n hn).1,(ho.ent n hn).2.2⟩
  ·rw[(List.mem_replicate.1 hn).2];exact⟨m0,Int.dvd_refl m⟩
 have nl:(out++List.replicate (W-k) m).length=W:=by rw[List.length_append,List.length_replicate];omega
 refine .of m0 _ W _ nl hn λ x=>⟨λ hx=>?_,λ hx=>?_⟩
 ·
  refine(ZiT (λ n h=>(hn n h).2) nl).all (λ g hg i hi=>?_) hx;obtain⟨f,hf,rfl⟩:=hg;obtain⟨q,q0,q1,rfl⟩:=Zds hf;obtain⟨n,rfl⟩:=Int.eq_ofNat_of_zero_le q0;rw[ZcQ hkR]at q1;rw[ZdC hkR (by omega)]
  by_cases w:n<k
  ·
   rw[if_pos w,V,ZjL (by omega)]
   split
   ·rename_i e;subst e;rw[e1 i w];exact Int.dvd_refl _
   ·exact Int.dvd_zero _
  ·rw[if_neg w,V,hz n i (by omega) (by omega) hi];exact Int.dvd_zero _
 ·
  have H:∀j,j<=k->Mx m W (Lm W out r k) (λ i=>if i<j then x i else 0):=by
   intro j
   induction j with
   | zero=>exact λ _=>Sp.nil.alike λ i _=>ZaG (by rw[if_neg (by omega)])
   | succ j ih =>
    intro hj;obtain⟨c,hc⟩:rd out (j:Int)∣x j:=by have:=hx j (by omega);rwa[e1 j (by omega)]at this
    have g:=ZbR (m:=m) (W:=W) (r:=Lm W out r k) (i:=j) (by rw[ZcQ hkR];omega)
    rw[ZdC hkR (by omega),if_pos (by omega)]at g;refine .alike ((ih (by omega)).plus (g.mul c)) λ i hi=>ZaG ?_
    show(if i<j then x i else 0)+c*rd (dgr W j (rd out (j:Int))) (i:Int)=if i<j+1 then x i else 0
    rw[ZjL (by omega)]
    by_cases w:i=j
    ·subst w;rw[if_neg (by omega),if_pos rfl,if_pos (by omega),hc,Int.mul_comm];omega
    ·
     rw[if_neg w,Int.mul_zero,Int.add_zero]
     by_cases w2:i<j
     ·rw[if_pos w2,if_pos (by omega)]
     ·rw[if_neg w2,if_neg (by omega)]
  refine(H k (Nat.le_refl _)).alike λ i hi=>?_
  by_cases w:i<k
  ·rw[if_pos w];exact ZaG rfl
  ·rw[if_neg w,Int.zero_sub];have:=hx i hi;rw[e2 i (by omega) hi]at this;exact Int.dvd_neg.2 this
theorem Zlx (m2:2<=m) (m12:m<=12) (hW:W<=1000) (hR:R<=100000) {X:List (List Int)} (hk:k<W):∀(N:Nat) (r:List (List Int)),DI m W R k out X r->(∃i c:Nat,k<=i/\i<R/\k<=c/\c<W/\¬ rd (row r (i:Int)) (c:Int)=0)->((∃g,Qq m W R k r g/\2*g<=N)\/∃g,Pp m W R k r g/\2*g+1<=N) ->
  ∃(b:Int) (r' : List (List Int)),Za.l2 m (W:Int) r out=Za.l2 m (W:Int) r' (out++[b])/\DI m W R (k+1) (out++[b]) X r':=by
 intro N
 induction N using Nat.strongRecOn with
 | ind N ih =>
  intro r h hne hN;obtain⟨b,r', b0,hmin,⟨q1,q2,q3⟩|⟨q1,q2⟩⟩:=ZkA m2 m12 hW hR h hk hne
  ·
   have ne' : ∃i c:Nat,k<=i/\i<R/\k<=c/\c<W/\¬ rd (row r' (i:Int)) (c:Int)=0:=by
    rcases q3 with ⟨i,c,a1,a2,a3,a4,a5,_⟩|⟨q,_⟩
    ·exact⟨i,c,a1,a2,a3,a4,a5⟩
    ·obtain⟨i,c,a1,a2,_⟩:=hne;exact⟨k,k,Nat.le_refl _,by omega,Nat.le_refl _,hk,by rw[q.at_];omega⟩
   obtain⟨i0,c0,w1,w2,_⟩:=hne;have Qp:∀g,Qq m W R k r g->Pp m W R k r g:=λ g q=>⟨k,k,Nat.le_refl _,by omega,Nat.le_refl _,hk,by rw[q.at_];have:=q.pos;omega,by rw[q.at_];have:((Int.gcd (g:Int) m:Nat):Int)<=(g:Int):=Int.le_of_dvd (by have:=q.pos;omega) (Int.gcd_dvd_left ..);omega⟩
   have key:∃N', N'<N/\((∃g,Qq m W R k r' g/\2*g<=N')\/∃g,Pp m W R k r' g/\2*g+1<=N'):=by
    rcases hN with ⟨g,hg,hgN⟩|⟨g,hg,hgN⟩
    ·
     have hb:=hmin g (Qp g hg);rcases q3 with p|⟨q,nq⟩
     ·exact⟨2*(b-1)+1,by omega,.inr ⟨b-1,p,by omega⟩⟩
     ·
      by_cases e:b=g
      ·subst e;exact absurd hg nq
      ·exact⟨2*b,by omega,.inl ⟨b,q,by omega⟩⟩
    ·
     have hb:=hmin g hg;rcases q3 with p|⟨q,nq⟩
     ·exact⟨2*(b-1)+1,by omega,.inr ⟨b-1,p,by omega⟩⟩
     ·exact⟨2*b,by omega,.inl ⟨b,q,by omega⟩⟩
   obtain⟨N', hN', hh⟩:=key;obtain⟨b', r'', z1,z2⟩:=ih N' hN' r' q2 ne' hh;exact⟨b', r'', q1.trans z1,z2⟩
  ·exact⟨(b:Int),r', q1,q2⟩
theorem ZmL (m2:2<=m) (m12:m<=12) (hW:W<=1000) (hR:R<=100000) {X:List (List Int)}:∀(n k:Nat) (out:List Int) (r:List (List Int)),k+n=W->DI m W R k out X r ->
  ∃ns r', Za.l2 m (W:Int) r out=some (ns,r')/\ns.length=W/\(∀n∈ns,0<n/\n∣m)/\(ns.Pairwise λ a b=>a∣b)/\Dg m W (Mx m W X) ns:=by
 have fin:∀(n k:Nat) (out:List Int) (r:List (List Int)),k+n=W->DI m W R k out X r->(∀i c:Nat,k<=i->i<R->k<=c->c<W->rd (row r (i:Int)) (c:Int)=0)->∃ns r', Za.l2 m (W:Int) r out=some (ns,r')/\ns.length=W/\(∀n∈ns,0<n/\n∣m)/\(ns.Pairwise λ a b=>a∣b)/\Dg m W (Mx m W X) ns:=by
  intro n k out r hn h hz;have ol:=h.oo.len;have hl:=h.len;have kR:=h.kR;have hf:=Zlu m2 m12 hW hR h.len h.ok n out (by omega) λ i c h1 h2 h3 h4=>hz i c (by omega) h2 (by omega) h4
  have nk:n=W-k:=by omega
  refine⟨_,_,hf,by rw[List.length_append,List.length_replicate];omega,λ a ha=>?_,?_,?_⟩
  ·
   rcases List.mem_append.1 ha with ha|ha
   ·exact⟨(h.oo.ent a ha).1,(h.oo.ent a ha).2.2⟩
   ·rw[(List.mem_replicate.1 ha).2];exact⟨by omega,Int.dvd_refl m⟩
  ·rw[List.pairwise_append];refine⟨h.pw,List.pairwise_replicate.2 (.inr (Int.dvd_refl m)),λ a ha b hb=>?_⟩;rw[(List.mem_replicate.1 hb).2];exact(h.oo.ent a ha).2.2
  ·
   rw[nk];exact(Lm_dg (by omega) h.oo h.kW (by omega) λ i c h1 h2 h3=>by
    by_cases w:c<k
    ·exact h.zer i c h1 (by omega) w
    ·exact hz i c h1 (by omega) (by omega) h3).eqd h.eqd
 intro n
 induction n with
 | zero=>exact λ k out r hn h=>fin 0 k out r hn h λ i c _ _ h3 h4=>by omega
 | succ n ih =>
  intro k out r hn h
  by_cases hz:∀i c:Nat,k<=i->i<R->k<=c->c<W->rd (row r (i:Int)) (c:Int)=0
  ·exact fin (n+1) k out r hn h hz
  ·
   have ne:∃i c:Nat,k<=i/\i<R/\k<=c/\c<W/\¬ rd (row r (i:Int)) (c:Int)=0:=by obtain⟨i,hz⟩:=Classical.not_forall.1 hz;obtain⟨c,hz⟩:=Classical.not_forall.1 hz;obtain⟨a1,hz⟩:=Classical.not_imp.1 hz;obtain⟨a2,hz⟩:=Classical.not_imp.1 hz;obtain⟨a3,hz⟩:=Classical.not_imp.1 hz;obtain⟨a4,hz⟩:=Classical.not_imp.1 hz;exact⟨i,c,a1,a2,a3,a4,hz⟩
   obtain⟨i,c,a1,a2,a3,a4,a5⟩:=ne;obtain⟨b,r', z1,z2⟩:=Zlx m2 m12 hW hR (by omega) _ r h ⟨i,c,a1,a2,a3,a4,a5⟩ (.inr ⟨Int.gcd (rd (row r (i:Int)) (c:Int)) m,⟨i,c,a1,a2,a3,a4,a5,Nat.le_refl _⟩,Nat.le_refl _⟩);rw[z1];exact ih (k+1) _ r' (by omega) z2
theorem ZkY (m2:2<=m) (m12:m<=12) (hW:W<=1000) {X:List (List Int)} (hX:X.length=R) (hR:R<=100000) (hl:∀i:Nat,i<R->(row X (i:Int)).length=W/\∀c:Nat,c<W -> -1000000<=rd (row X (i:Int)) (c:Int)/\rd (row X (i:Int)) (c:Int)<=1000000) :
  ∃ns r', Za.f m X (W:Int)=some (ns,r')/\ns.length=W/\(∀n∈ns,0<n/\n∣m)/\(ns.Pairwise λ a b=>a∣b)/\Dg m W (Mx m W X) ns:=by
 obtain⟨X', hX'⟩:∃X', X'=X.map λ x=>nf m W (V x):=⟨_,rfl⟩
 have l' : X'.length=R:=by rw[hX', List.length_map];exact hX
 have rw' : ∀i:Nat,i<R->row X' (i:Int)=nf m W (V (row X (i:Int))):=λ i hi=>by rw[hX', Zb0 _ _ (by omega)]
 have ok:Rok m W X':=λ i hi=>by rw[rw' i (by omega)];exact⟨ZeJ ..,nf_in (by omega) _ _⟩
 have eqd:Eqd m W (Mx m W X) (Mx m W X'):=by
  refine Mx_same' (by omega) (λ i hi=>?_) λ i hi=>?_
  ·have:=ZbR (m:=m) (W:=W) (r:=X') (i:=i) (by omega);rw[rw' i (by omega)]at this;exact this.alike λ c hc=>ZbI (Zc0 hc)
  ·rw[rw' i (by omega)];exact(ZbR (m:=m) (W:=W) hi).alike λ c hc=>Zc0 hc
 obtain⟨ns,r', k1,k2,k3,k4,k5⟩:=ZmL m2 m12 hW hR (X:=X) W 0 [] X' (by omega) ⟨l', ok,⟨rfl,λ n hn=>by cases hn⟩,by omega,by omega,by rw[show Lm W [] X' 0=X' by rw[Lm];rfl];exact eqd,λ i c _ _ h=>by omega,λ n hn=>(by cases hn),.nil⟩
 refine⟨ns,r', ?_,k2,k3,k4,k5⟩;rw[Za.f_eq,hX,Zlv m2 m12 hW hX hR hl,<-hX', k1]
end
end Go.Proofs.YtdamfbighdkcbaaGreat.V
