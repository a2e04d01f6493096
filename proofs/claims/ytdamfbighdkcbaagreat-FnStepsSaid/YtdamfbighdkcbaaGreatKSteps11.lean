/- What the proof of the law Steps stands on, part 11: words, each Go function's Lean function, and that the Go code comes to its answers; no condition. (Packed by wip/myprint/pack.py out of what the kit's printer wrote, its words among it, partly by our patches of it, and out of texts of this session.) -/
import Derived.Test.YtdamfbighdkcbaaGreatRows
import Derived.WalkKit
import Derived.ProofKit
import Derived.KernelRfl
import Derived.Test.YtdamfbighdkcbaaGreatKSteps3
import Derived.Test.YtdamfbighdkcbaaGreatKSteps4
import Derived.Test.YtdamfbighdkcbaaGreatKSteps5
import Derived.Test.YtdamfbighdkcbaaGreatKSteps7
import Derived.Test.YtdamfbighdkcbaaGreatKSteps8
import Derived.Test.YtdamfbighdkcbaaGreatKSteps9
import Derived.Test.YtdamfbighdkcbaaGreatKSteps10
set_option linter.unusedVariables false
set_option linter.unusedSimpArgs false
set_option maxHeartbeats 8000000
set_option maxRecDepth 20000
namespace Go.Proofs.YtdamfbighdkcbaaGreat.V
open Go.RowKit Go.Proofs.YtdamfbighdkcbaaGreat.D Go.Proofs.YtdamfbighdkcbaaGreat.P
theorem Zow {m:Int} (m2:2<=m) (m12:m<=12) {W:Nat} (hW:W<=100000) {p:List (List Int)} {M:Vc->Prop} (hM:Lead m W p M) {x:List Int} (hx:x.length=W) (ha:AllIn m x) :
  ∃y t,ZN.f m p x=some (y,t)/\Least0 m W W p M x y t:=by
 have hl:=hM.tab.len;rw[ZN.f_eq,hl,Int.toNat_natCast];have key:∀k,k<=W->∃y t,ZN.l0 x p (W:Int) 0 m p (List.replicate W 0)=ZN.l0 y p (W:Int) (k:Int) m p t/\Least0 m W k p M x y t:=by
  intro k
  induction k with
  | zero=>exact λ _=>⟨_,_,rfl,Least0.begin hM hx ha⟩
  | succ k ih =>
   intro hk;obtain⟨y,t,h1,h2⟩:=ih (by omega);have yl:=h2.len;have tl:=h2.tlen
   by_cases hr:row p (k:Int)=[]
   ·
    have e0:(row p (k:Int)).length=0:=by rw[hr];rfl
    refine⟨y,t,?_,h2.skip (by omega) hr⟩;rw[h1,ZN.l0_eq,wn (j:=k) (by omega)]
    ((with_reducible repeat (first|refine go_p ?_|refine go_n ?_|refine go_b ?_|dsimp only));first|done|(with_reducible rfl)|simp (disch:=omega) only[w64])
   ·
    have hP:=hM.tab.prow (show k<W by omega) hr;have pl:=hP.len;have p0:=hP.pos;obtain⟨y0,y1⟩:=h2.ent k (by omega) (by omega);refine⟨_,_,?_,h2.take m2 m12 hM (by omega) hr⟩;have hT:T p (k:Int) (k:Int)=rd (row p (k:Int)) (k:Int):=rfl;have d0:0<=rd y (k:Int) / rd (row p (k:Int)) (k:Int):=Int.ediv_nonneg y0 (by omega);have d1:rd y (k:Int) / rd (row p (k:Int)) (k:Int)<=rd y (k:Int):=Int.ediv_le_self _ y0;have e1:wrapI (Int.tdiv (rd y (k:Int)) (rd (row p (k:Int)) (k:Int)))=rd y (k:Int) / rd (row p (k:Int)) (k:Int):=by rw[Zdy y0];exact w64 (by omega) (by omega)
    have hne:¬ rd (row p (k:Int)) (k:Int)=0:=by omega
    have hsl:(t.set k (rd y (k:Int) / rd (row p (k:Int)) (k:Int))).length=W:=by rw[List.length_set];exact tl
    have hc:=combined m2 m12 (p:=p) (x:=1) (y:=-(rd y (k:Int) / rd (row p (k:Int)) (k:Int))) h2.ent hP.ent (by omega) (by omega) (by omega) (by omega) (by omega) (by omega);have e2:wrapI (0-rd y (k:Int) / rd (row p (k:Int)) (k:Int)) = -(rd y (k:Int) / rd (row p (k:Int)) (k:Int)):=by rw[w64 (by omega) (by omega)];omega
    rw[h1,ZN.l0_eq,wn (j:=k) (by omega),hT,e1,Int.toNat_natCast,Zbw (by omega),e2]
    ((with_reducible repeat (first|refine go_p ?_|refine go_n ?_|refine go_b ?_|dsimp only));first|done|(with_reducible rfl)|simp (disch:=omega) only[w64])
 obtain⟨y,t,h1,h2⟩:=key W (Nat.le_refl _);refine⟨y,t,?_,h2⟩
 (with_reducible repeat (first|refine go_p ?_|refine go_n ?_|refine go_b ?_|dsimp only))
 rw[h1,ZN.l0_eq]
 ((with_reducible repeat (first|refine go_p ?_|refine go_n ?_|refine go_b ?_|dsimp only));first|done|(with_reducible rfl)|simp (disch:=omega) only[w64])
theorem lc_at {m:Int} {W:Nat} {p:List (List Int)} (ht:PTab m W p) {t:List Int} (hn:∀j:Nat,row p (j:Int)=[]->rd t (j:Int)=0) {i:Nat} (hz:∀j:Nat,j<i->rd t (j:Int)=0):∀k,k<=W->lc p t k i=if i<k then rd t (i:Int)*rd (row p (i:Int)) (i:Int)else 0:=by
 intro k
 induction k with
 | zero=>intro _;rfl
 | succ k ih =>
  intro hk;rw[Zep,ih (by omega)]
  by_cases h:i<k
  ·
   rw[if_pos h,if_pos (by omega)]
   by_cases hr:row p (k:Int)=[]
   ·rw[hn k hr,Int.zero_mul,Int.add_zero]
   ·rw[(ht.prow (by omega) hr).zero i h,Int.mul_zero,Int.add_zero]
  ·
   rw[if_neg h]
   by_cases e:i=k
   ·subst e;rw[if_pos (by omega),Int.zero_add]
   ·rw[if_neg (by omega),hz k (by omega),Int.zero_mul];rfl
theorem Least0.low {m:Int} {W:Nat} {p:List (List Int)} {M:Vc->Prop} {x y t:List Int} (ht:PTab m W p) (h:Least0 m W W p M x y t) {J:Nat} (hJ:J<=W) (hx:∀i:Nat,i<J->rd x (i:Int)=0):∀n,n<=J->∀i:Nat,i<n->rd t (i:Int)=0:=by
 intro n
 induction n with
 | zero=>intro _ i hi;omega
 | succ n ih =>
  intro hn i hi
  by_cases e:i=n
  ·
   subst e;have z:=ih (by omega)
   by_cases hr:row p (i:Int)=[]
   ·exact h.tnil i hr
   ·
    have hP:=ht.prow (show i<W by omega) hr;have p0:=hP.pos;have k1:=h.tak i (by omega);have k2:=h.lt i (by omega);have k3:=h.tlt i (by omega);obtain⟨t0,_⟩:=h.tbd i (by omega);obtain⟨y0,y1⟩:=h.ent (i:Int) (by omega) (by have:=h.len;omega);rw[lc_at ht h.tnil z W (Nat.le_refl _),if_pos (by omega),hx i (by omega)]at k1;rw[show dv m p i=rd (row p (i:Int)) (i:Int)from if_neg hr]at k2;obtain⟨d,hd⟩:∃d,d=rd (row p (i:Int)) (i:Int):=⟨_,rfl⟩
    obtain⟨τ,hτ⟩:∃τ,τ=rd t (i:Int):=⟨_,rfl⟩
    rw[<-hd]at k1 k2 k3 p0;rw[<-hτ]at k1 k3 t0 ⊢;have hdm:d∣m:=by rw[hd];exact hP.dvd
    have dy:d∣rd y (i:Int):=by have:=Int.dvd_add (Int.dvd_trans hdm k1) (Int.dvd_mul_left τ d);rw[show 0-rd y (i:Int)-τ * d + τ * d = -rd y (i:Int)by omega]at this;exact Int.dvd_neg.1 this
    have y00:rd y (i:Int)=0:=by
     by_cases q:rd y (i:Int)=0
     ·exact q
     ·have:=Int.le_of_dvd (by omega) dy;omega
    rw[y00]at k1;have k1:m ∣ τ * d:=by rw[show(0:Int)-0-τ * d = -(τ * d)by omega]at k1;exact Int.dvd_neg.1 k1
    have q0:0 <= τ * d:=Int.mul_nonneg t0 (by omega);have:τ * d=0:=by
     by_cases q:τ * d=0
     ·exact q
     ·have:=Int.le_of_dvd (by omega) k1;omega
    rcases Int.mul_eq_zero.1 this with q|q
    ·exact q
    ·omega
  ·exact ih (by omega) i (by omega)
def All2 (P:Nat->List Int->Prop) (l:List Nat) (o:List (List Int)):Prop:=o.length=l.length/\∀k,k<l.length->P (l.getD k 0) (row o (k:Int))
theorem All2.nil (P:Nat->List Int->Prop):All2 P [] []:=⟨rfl,λ k hk=>absurd hk (Nat.not_lt_zero _)⟩
theorem ZcE {a b:List (List Int)} {k:Nat} (h:k<a.length):row (a++b) (k:Int)=row a (k:Int):=by rw[Zbz (by rw[List.length_append];omega),Zbz h,List.getElem_append_left h]
theorem Zcv {a b:List (List Int)} {k:Nat} (h:k<b.length):row (a++b) ((a.length+k:Nat):Int)=row b (k:Int):=by
 rw[Zbz (by rw[List.length_append];omega),Zbz h,List.getElem_append_right (by omega)]
 congr 1
 omega
theorem All2.snoc {P:Nat->List Int->Prop} {l:List Nat} {o:List (List Int)} (h:All2 P l o) {a:Nat} {x:List Int} (hx:P a x):All2 P (l++[a]) (o++[x]):=by
 obtain⟨h1,h2⟩:=h;refine⟨by rw[List.length_append,List.length_append,h1];rfl,λ k hk=>?_⟩;rw[List.length_append]at hk;have l1:([a]:List Nat).length=1:=rfl
 by_cases e:k<l.length
 ·rw[ZcE (by omega),List.getD_eq_getElem?_getD,List.getElem?_append_left e,<-List.getD_eq_getElem?_getD];exact h2 k e
 ·
  have ek:k=l.length:=by omega
  subst ek;have:=Zcv (a:=o) (b:=[x]) (k:=0) (by show 0<1;omega);rw[Nat.add_zero,h1]at this;rw[this,List.getD_eq_getElem?_getD,List.getElem?_append_right (Nat.le_refl _),Nat.sub_self];exact hx
structure RelR (m:Int) (W:Nat) (z:List (List Int)) (j:Nat) (t:List Int):Prop where
 len:t.length=W
 bd:∀i:Nat,i<W -> -12<=rd t (i:Int)/\rd t (i:Int)<=12
 low:∀i:Nat,i<j->rd t (i:Int)=0
 at_:rd t (j:Int)=m / rd (row z (j:Int)) (j:Int)
 ker:∀i,i<W->m∣lc z t W i
structure RelT (m:Int) (W:Nat) (z b:List (List Int)) (j:Nat) (t:List Int):Prop where
 len:t.length=W
 bd:∀i:Nat,i<W -> -12<=rd t (i:Int)/\rd t (i:Int)<=12
 eq:∀i:Nat,i<W->m∣lc z t W i-rd (row b (j:Int)) (i:Int)
theorem Zny {z:List (List Int)} {t t' : List Int} {j:Nat} {q:Int} {i:Nat}:∀W,(∀k:Nat,k<W->rd t' (k:Int) = -rd t (k:Int)+if k=j then q else 0)->lc z t' W i = -lc z t W i+if j<W then q*rd (row z (j:Int)) (i:Int)else 0
 | 0,_=>by rfl
 | W+1,h=>by
  rw[Zep,Zep,Zny W λ k hk=>h k (by omega),h W (by omega)]
  by_cases e:W=j
  ·subst e;rw[if_neg (by omega),if_pos rfl,if_pos (by omega),Int.add_mul,Int.neg_mul];omega
  ·
   rw[if_neg e,Int.add_zero,Int.neg_mul]
   by_cases e2:j<W
   ·rw[if_pos e2,if_pos (by omega)];omega
   ·rw[if_neg e2,if_neg (by omega)];omega
section
variable {m:Int} {W:Nat} {z b:List (List Int)} {Z Bs:Vc->Prop}
theorem rel_t (m2:2<=m) (m12:m<=12) (hW:W<=1000) (hz:Lead m W z Z) {x:List Int} (hx:x.length=W) (ha:AllIn m x) (hZ:Z (V x)):∃y t,ZN.f m z x=some (y,t)/\t.length=W/\(∀i:Nat,i<W->0<=rd t (i:Int)/\rd t (i:Int)<=12)/\(∀i:Nat,i<W->m∣rd x (i:Int)-lc z t W i)/\∀J,J<=W->(∀i:Nat,i<J->rd x (i:Int)=0)->∀i:Nat,i<J->rd t (i:Int)=0:=by obtain⟨y,t,h1,h2⟩:=Zow m2 m12 (by omega) hz hx ha;refine⟨y,t,h1,h2.tlen,h2.tbd,λ i hi=>?_,λ J hJ h0=>h2.low hz.tab hJ h0 J (Nat.le_refl _)⟩;have:=h2.tak i hi;rwa[(Least.zero_iff (by omega) hz h2.fin).2 hZ (i:Int) (by omega) (by have:=h2.len;omega),Int.sub_zero]at this
theorem rel_r (m2:2<=m) (m12:m<=12) (hW:W<=1000) (hz:Lead m W z Z) {j:Nat} (hj:j<W) (hr:row z (j:Int)≠[]):∃y t,ZN.f m z (mix m (m / rd (row z (j:Int)) (j:Int)) (row z (j:Int)) 0 (row z (j:Int)))=some (y,t)/\t.length=W/\(∀i:Nat,i<W->0<=rd t (i:Int)/\rd t (i:Int)<=12)/\rd t (j:Int)=0/\RelR m W z j ((t.map λ n=>-n).set j (m / rd (row z (j:Int)) (j:Int))):=by
 have hP:=hz.tab.prow hj hr;have hl:=hP.len;obtain⟨r,hr'⟩:∃r,r=row z (j:Int):=⟨_,rfl⟩
 obtain⟨d,hd⟩:∃d,d=rd r (j:Int):=⟨_,rfl⟩
 have p0:=hP.pos;have p1:=hP.lt;have pd:=hP.dvd;have p2:=hP.zero;have pe:=hP.ent;rw[<-hr']at hl p0 p1 pd p2 pe ⊢;rw[<-hd]at p0 p1 pd ⊢;obtain⟨q,hq⟩:=pd;have hmq:m / d=q:=by rw[hq];exact Int.mul_ediv_cancel_left _ (by omega)
 rw[hmq];have q0:0<q:=by
  rcases Int.lt_or_le 0 q with h|h
  ·exact h
  ·have:=Int.mul_nonneg (show 0<=d by omega) (show 0 <= -q by omega);rw[Int.mul_neg]at this;omega
 have q1:q<=12:=by have:=Int.le_of_dvd (show 0<m by omega) (show q∣m from⟨d,by rw[hq,Int.mul_comm]⟩);omega
 have hv:Z (V (mix m q r 0 r)):=mix_V (by omega) hl hz.sub (by rw[hr'];exact hz.own j hj hr) (by rw[hr'];exact hz.own j hj hr)
 obtain⟨y,t,h1,h2,h3,h4,h5⟩:=rel_t m2 m12 hW hz (x:=mix m q r 0 r) (by rw[Zbl];exact hl) (Zcp (by omega)) hv
 have tz:=h5 (j+1) (by omega) λ i hi=>by
  rw[ZbT (by omega),Int.zero_mul,Int.add_zero]
  by_cases e:i=j
  ·rw[e,<-hd,Int.mul_comm,<-hq,Int.emod_self]
  ·rw[p2 i (by omega),Int.mul_zero];rfl
 have ml:(t.map λ n=>-n).length=W:=by rw[List.length_map];exact h2
 have rdn:∀i:Nat,i<W->rd ((t.map λ n=>-n).set j q) (i:Int) = -rd t (i:Int)+if i=j then q else 0:=λ i hi=>by
  by_cases e:i=j
  ·subst e;rw[Zbw (by omega),if_pos rfl,tz i (by omega)];omega
  ·rw[ZbE e,if_neg e,rd_get (by omega),rd_get (show i<t.length by omega),List.getElem_map,Int.add_zero]
 refine⟨y,t,h1,h2,h3,tz j (by omega),by rw[List.length_set];exact ml,λ i hi=>?_,λ i hi=>?_,?_,λ i hi=>?_⟩
 ·
  rw[rdn i hi];have:=h3 i hi
  by_cases e:i=j
  ·rw[if_pos e,e,tz j (by omega)];omega
  ·rw[if_neg e];omega
 ·rw[rdn i (by omega),if_neg (by omega),tz i (by omega)];rfl
 ·rw[Zbw (by omega),<-hr', <-hd,hmq]
 ·rw[Zny (t:=t) (j:=j) (q:=q) W rdn,if_pos hj,<-hr'];have k1:=h4 i hi;have k2:=Zb1 (m:=m) (x:=q) (a:=r) (y:=0) (b:=r) (i:=i) (by omega);have:=Int.dvd_add k1 k2;rw[Int.zero_mul,Int.add_zero]at this;rwa[show ∀a b c:Int,a-b+(c-a) = -b+c from λ a b c=>by omega]at this
theorem Zko (m2:2<=m) (m12:m<=12) (hW:W<=1000) (hz:Lead m W z Z) (hb:Lead m W b Bs) (hBZ:∀x,Bs x->Z x) (mb:Int):∃A B,Zj.f m z mb b=some (A++B)/\All2 (RelR m W z) (nn z W) A/\All2 (RelT m W z b) (nn b W) B:=by
 have zl:=hz.tab.len;have bl:=hb.tab.len;have second:∀(A:List (List Int)),A.length<=1000->∀(n j:Nat) (B:List (List Int)),j+n=W->All2 (RelT m W z b) (nn b j) B->∃B', Zj.l2 b (W:Int) (j:Int) m z (A++B)=some (A++B')/\All2 (RelT m W z b) (nn b W) B':=by
  intro A hA n
  induction n with
  | zero =>
   intro j B hj hB;have:j=W:=by omega
   subst this;refine⟨B,?_,hB⟩;rw[Zj.l2_eq]
   ((with_reducible repeat (first|refine go_p ?_|refine go_n ?_|refine go_b ?_|dsimp only));first|done|(with_reducible rfl)|simp (disch:=omega) only[w64])
  | succ n ih =>
   intro j B hj hB;have Bl:=hB.1;have nb:=nn_le b j
   by_cases hr:row b (j:Int)=[]
   ·
    have e0:(row b (j:Int)).length=0:=by rw[hr];rfl
    obtain⟨B', k1,k2⟩:=ih (j+1) B (by omega) (by rw[ZdV,if_neg (λ q=>q hr),List.append_nil];exact hB)
    refine⟨B', ?_,k2⟩;rw[<-k1,Zj.l2_eq,wn (j:=j) (by omega)]
    ((with_reducible repeat (first|refine go_p ?_|refine go_n ?_|refine go_b ?_|dsimp only));first|done|(with_reducible rfl)|simp (disch:=omega) only[w64])
   ·
    have hP:=hb.tab.prow (show j<W by omega) hr;have pl:=hP.len;obtain⟨y,t,h1,h2,h3,h4,h5⟩:=rel_t m2 m12 hW hz (x:=row b (j:Int)) pl hP.ent (hBZ _ (hb.own j (by omega) hr));have ht:RelT m W z b j t:=⟨h2,λ i hi=>by have:=h3 i hi;omega,λ i hi=>ZbI (h4 i hi)⟩
    obtain⟨B', k1,k2⟩:=ih (j+1) (B++[t]) (by omega) (by rw[ZdV,if_pos hr];exact hB.snoc ht)
    refine⟨B', ?_,k2⟩;have l1:([t]:List (List Int)).length=1:=rfl;have la:(A++B).length=A.length+B.length:=List.length_append;rw[<-k1,Zj.l2_eq,wn (j:=j) (by omega),<-List.append_assoc];simp only[h1,Option.bind_some]
    ((with_reducible repeat (first|refine go_p ?_|refine go_n ?_|refine go_b ?_|dsimp only));first|done|(with_reducible rfl)|simp (disch:=omega) only[w64])
 have first:∀(n j:Nat) (A:List (List Int)),j+n=W->All2 (RelR m W z) (nn z j) A->∃A', Zj.l0 z (W:Int) (j:Int) m z mb b A=Zj.l2 b (W:Int) 0 m z A' /\ All2 (RelR m W z) (nn z W) A':=by
  intro n
  induction n with
  | zero =>
   intro j A hj hA;have:j=W:=by omega
   subst this;refine⟨A,?_,hA⟩;rw[Zj.l0_eq,bl]
   ((with_reducible repeat (first|refine go_p ?_|refine go_n ?_|refine go_b ?_|dsimp only));first|done|(with_reducible rfl)|simp (disch:=omega) only[w64])
  | succ n ih =>
   intro j A hj hA;have Al:=hA.1;have nz:=nn_le z j
   by_cases hr:row z (j:Int)=[]
   ·
    have e0:(row z (j:Int)).length=0:=by rw[hr];rfl
    obtain⟨A', k1,k2⟩:=ih (j+1) A (by omega) (by rw[ZdV,if_neg (λ q=>q hr),List.append_nil];exact hA)
    refine⟨A', ?_,k2⟩;rw[<-k1,Zj.l0_eq,wn (j:=j) (by omega)]
    ((with_reducible repeat (first|refine go_p ?_|refine go_n ?_|refine go_b ?_|dsimp only));first|done|(with_reducible rfl)|simp (disch:=omega) only[w64])
   ·
    have hP:=hz.tab.prow (show j<W by omega) hr;have pl:=hP.len;obtain⟨y,t,h1,h2,h3,h4,h5⟩:=rel_r m2 m12 hW hz (show j<W by omega) hr;obtain⟨A', k1,k2⟩:=ih (j+1) (A++[(t.map λ n=>-n).set j (m / rd (row z (j:Int)) (j:Int))]) (by omega) (by rw[ZdV,if_pos hr];exact hA.snoc h5);refine⟨A', ?_,k2⟩;have p0:=hP.pos;have hT:T z (j:Int) (j:Int)=rd (row z (j:Int)) (j:Int):=rfl;obtain⟨d,hd⟩:∃d,d=rd (row z (j:Int)) (j:Int):=⟨_,rfl⟩
    obtain⟨r,hr'⟩:∃r,r=row z (j:Int):=⟨_,rfl⟩
    have pe:=hP.ent;rw[<-hr']at pl pe h1 hd p0;rw[<-hd]at p0;rw[<-hr', <-hd]at hT;obtain⟨q,hq⟩:∃q,q=m / d:=⟨_,rfl⟩
    have w1:wrapI (Int.tdiv m d)=q/\0<=q/\q<=m:=by have:=w_div (x:=m) (g:=d) (by omega) (by omega) (by omega);rw[<-hq]at this;exact this
    obtain⟨w1,w2,w3⟩:=w1;rw[<-hr', <-hd,<-hq]at k1;rw[<-hd,<-hq]at h1;have hc:=combined m2 m12 (p:=z) (x:=q) (y:=0) pe pe rfl (by omega) (by omega) (by omega) (by omega) (by omega);obtain⟨F,hF⟩:∃F,F=t.map λ n=>-n:=⟨_,rfl⟩
    have Fl:F.length=t.length:=by rw[hF,List.length_map]
    have neg:=up W (λ c=>Zj.l1 (j:Int) r z (W:Int) (j:Int) (W:Int) (c:Int) m z mb b A (upd1 F t c)) (λ c hc=>by
     have l1:=ZeS Fl c;have b0:=h3 c hc;have e1:wrapI (0-rd t (c:Int))=rd F (c:Int):=by rw[w64 (by omega) (by omega),hF,rd_get (show c<(t.map λ n=>-n).length by rw[List.length_map];omega),List.getElem_map,<-rd_get (show c<t.length by omega)];omega
     rw[Zj.l1_eq,wn (j:=c) (by omega),Zgo Fl (by omega),e1,Int.toNat_natCast,Zd2 Fl (by omega)]
     ((with_reducible repeat (first|refine go_p ?_|refine go_n ?_|refine go_b ?_|dsimp only));first|done|(with_reducible rfl)|simp (disch:=omega) only[w64]))
    rw[Zd3,show upd1 F t W=F by rw[<-h2];exact ZeR Fl]at neg
    have neg:Zj.l1 (j:Int) r z (W:Int) (j:Int) (W:Int) 0 m z mb b A t=_:=neg;have Fj:rd F (j:Int)=0:=by rw[hF,rd_get (show j<(t.map λ n=>-n).length by rw[List.length_map];omega),List.getElem_map,<-rd_get (show j<t.length by omega),h4];rfl
    have e3:wrapI (0+q)=q:=by rw[Int.zero_add];exact w64 (by omega) (by omega)
    have l1:([F.set j q]:List (List Int)).length=1:=rfl;have fin:Zj.l1 (j:Int) r z (W:Int) (j:Int) (W:Int) (W:Int) m z mb b A F=Zj.l0 z (W:Int) ((j+1:Nat):Int) m z mb b (A++[F.set j q]):=by
     rw[Zj.l1_eq,wn (j:=j) (by omega),Fj,<-hd,w1,e3];simp only[Int.toNat_natCast]
     ((with_reducible repeat (first|refine go_p ?_|refine go_n ?_|refine go_b ?_|dsimp only));first|done|(with_reducible rfl)|simp (disch:=omega) only[w64])
    rw[<-k1,<-hF,<-fin,<-neg,Zj.l0_eq,hT,w1,<-hr', hc,Option.bind_some,h1];simp only[Option.bind_some,h2]
    ((with_reducible repeat (first|refine go_p ?_|refine go_n ?_|refine go_b ?_|dsimp only));first|done|(with_reducible rfl)|simp (disch:=omega) only[w64])
 obtain⟨A,a1,a2⟩:=first W 0 [] (by omega) (All2.nil _)
 have nz:=nn_le z W;obtain⟨B,b1,b2⟩:=second A (by have:=a2.1;omega) W 0 [] (by omega) (All2.nil _);refine⟨A,B,?_,a2,b2⟩;rw[Zj.f_eq,zl];have a1:Zj.l0 z (W:Int) 0 m z mb b []=_:=a1;have b1:Zj.l2 b (W:Int) 0 m z (A++[])=_:=b1;rw[List.append_nil]at b1;rw[a1,b1]
end
section
variable {m:Int} {W:Nat} {z b:List (List Int)} {Z Bs:Vc->Prop}
theorem RelMx (m2:2<=m) (m12:m<=12) (hz:Lead m W z Z) (hb:Lead m W b Bs) {A B:List (List Int)} (hA:All2 (RelR m W z) (nn z W) A) (hB:All2 (RelT m W z b) (nn b W) B) (c:Vc) :
  Mx m (nn z W).length ((A++B).map (pick (nn z W))) c↔Bs (cmb (gen z (nn z W)) c (nn z W).length):=by
 obtain⟨A1,A2⟩:=hA;obtain⟨B1,B2⟩:=hB;have xl:((A++B).map (pick (nn z W))).length=A.length+B.length:=by rw[List.length_map,List.length_append]
 have hrow:∀k,k<A.length+B.length->Mx m (nn z W).length ((A++B).map (pick (nn z W))) (V (pick (nn z W) (row (A++B) (k:Int)))):=λ k hk=>by have:=ZbR (m:=m) (W:=(nn z W).length) (r:=(A++B).map (pick (nn z W))) (i:=k) (by omega);rwa[Zb0 _ _ (by rw[List.length_append];exact hk)]at this
 refine Zou m2 m12 hz.tab hb Sp.sub (R:=λ k=>V (pick (nn z W) (row A (k:Int)))) (T:=λ l=>V (pick (nn z W) (row B (l:Int)))) (λ k hk=>?_) (λ l hl=>?_) (λ c hc=>?_) c
 ·
  have h:=A2 k hk;refine⟨by have:=hrow k (by omega);rwa[ZcE (by omega)]at this,λ i hi=>?_,?_,λ i hi=>?_⟩
  ·show rd (pick _ _) (i:Int)=0;rw[Zes (by omega)];exact h.low _ (nn_lt hi hk)
  ·
   refine ZaG ?_;show rd (pick _ _) (k:Int)=_;rw[Zes hk,h.at_]
   rfl
  ·show m∣cmb (gen z (nn z W)) (V (pick (nn z W) (row A (k:Int)))) (nn z W).length i;rw[<-Zh7];exact h.ker i hi
 ·have h:=B2 l hl;refine⟨by have:=hrow (A.length+l) (by omega);rwa[Zcv (by omega)]at this,λ i hi=>?_⟩;show m∣cmb (gen z (nn z W)) (V (pick (nn z W) (row B (l:Int)))) (nn z W).length i-_;rw[<-Zh7];exact h.eq i hi
 ·
  have hS:Sub m (nn z W).length (λ c=>Bs (cmb (gen z (nn z W)) c (nn z W).length)):=by
   refine⟨hb.sub.alike _ _ hb.sub.zero λ i _=>ZaG (by rw[Zg3 _ λ k _=>rfl]),λ x y h1 h2 c=>hb.sub.alike _ _ (hb.sub.lin _ _ h1 h2 c) λ i _=>ZaG ?_,λ x y h1 h2=>hb.sub.alike _ _ h1 λ i hi=>?_⟩
   ·rw[Zcg]
   ·exact ZcT i _ λ j hj=>h2 j hj
  refine hS.all (λ g hg=>?_) hc;obtain⟨f,hf,rfl⟩:=hg;obtain⟨q,q0,q1,rfl⟩:=Zds hf;obtain⟨n,rfl⟩:=Int.eq_ofNat_of_zero_le q0;rw[Zb0 _ _ (by rw[List.length_append];omega)];show Bs (cmb (gen z (nn z W)) (V (pick (nn z W) (row (A++B) (n:Int)))) (nn z W).length);rw[<-Zh7]
  by_cases h:n<A.length
  ·rw[ZcE h];exact hb.sub.alike _ _ hb.sub.zero λ i hi=>ZbI (by rw[Int.sub_zero];exact(A2 n (by omega)).ker i hi)
  ·
   obtain⟨l,rfl⟩:∃l,n=A.length+l:=⟨n-A.length,by omega⟩
   rw[Zcv (by omega)];have hl:l<(nn b W).length:=by omega
   obtain⟨a1,a2⟩:=nn_at hl;exact hb.sub.alike _ _ (hb.own _ a1 a2) λ i hi=>ZbI ((B2 l hl).eq i hi)
theorem ZiD (m2:2<=m) (m12:m<=12) (hW:W<=1000) (hz:Lead m W z Z) (hb:Lead m W b Bs) (hBZ:∀x,Bs x->Z x) (mb:Int) :
  ∃ns,Zi.f m z mb b=(Zaw.f (ns.filter λ x=>!decide (x=1))).bind (λ t=>some t)/\ns.length=(nn z W).length/\(∀n∈ns,0<n/\n∣m)/\(ns.Pairwise λ a b=>a∣b)/\Dg m (nn z W).length (λ c=>Bs (cmb (gen z (nn z W)) c (nn z W).length)) ns:=by
 have zl:=hz.tab.len;obtain⟨A,B,k1,k2,k3⟩:=Zko m2 m12 hW hz hb hBZ mb;have nzW:=nn_le z W;have nbW:=nn_le b W;have Al:=k2.1;have Bl:=k3.1;obtain⟨RS,hRS⟩:∃RS,RS=A++B:=⟨_,rfl⟩
 have RSl:RS.length=A.length+B.length:=by rw[hRS,List.length_append]
 obtain⟨at_,ha⟩:∃at_:List Int,at_=(nn z W).map λ j:Nat=>(j:Int):=⟨_,rfl⟩
 have atl:at_.length=(nn z W).length:=by rw[ha,List.length_map]
 have atr:∀k,k<(nn z W).length->rd at_ (k:Int)=(((nn z W).getD k 0:Nat):Int):=λ k hk=>by rw[rd_get (by omega),List.getD_eq_getElem?_getD,List.getElem?_eq_getElem hk];simp[ha]
 have cols:∀(n j:Nat),j+n=W->Zi.l0 z (W:Int) (j:Int) m z mb b ((nn z j).map λ j:Nat=>(j:Int))=Zi.l0 z (W:Int) (W:Int) m z mb b at_:=by
  intro n
  induction n with
  | zero =>
   intro j hj;have:j=W:=by omega
   subst this;rw[ha]
  | succ n ih =>
   intro j hj;have nj:=nn_le z j;rw[<-ih (j+1) (by omega),Zi.l0_eq,wn (j:=j) (by omega)];have ml:((nn z j).map λ j:Nat=>(j:Int)).length=(nn z j).length:=List.length_map ..;have l1:([(j:Int)]:List Int).length=1:=rfl
   by_cases hr:row z (j:Int)=[]
   ·
    have e0:(row z (j:Int)).length=0:=by rw[hr];rfl
    rw[show nn z (j+1)=nn z j by rw[ZdV,if_neg (λ q=>q hr),List.append_nil]]
    ((with_reducible repeat (first|refine go_p ?_|refine go_n ?_|refine go_b ?_|dsimp only));first|done|(with_reducible rfl)|simp (disch:=omega) only[w64])
   ·
    have pl:=(hz.tab.prow (show j<W by omega) hr).len;rw[show nn z (j+1)=nn z j++[j]by rw[ZdV,if_pos hr],List.map_append,List.map_cons,List.map_nil]
    ((with_reducible repeat (first|refine go_p ?_|refine go_n ?_|refine go_b ?_|dsimp only));first|done|(with_reducible rfl)|simp (disch:=omega) only[w64])
 have cols:=cols W 0 (by omega);have cols:Zi.l0 z (W:Int) 0 m z mb b []=_:=cols;have rows:∀(n k:Nat),k+n=RS.length->Zi.l1 RS (RS.length:Int) (k:Int) m z at_ ((RS.take k).map (pick (nn z W)))=Zi.l1 RS (RS.length:Int) (RS.length:Int) m z at_ (RS.map (pick (nn z W))):=by
  intro n
  induction n with
  | zero =>
   intro k hk;have:k=RS.length:=by omega
   subst this;rw[List.take_length]
  | succ n ih =>
   intro k hk;have rl:(row RS (k:Int)).length=W:=by
    by_cases h:k<A.length
    ·rw[hRS,ZcE h];exact(k2.2 k (by omega)).len
    ·
     obtain⟨l,rfl⟩:∃l,k=A.length+l:=⟨k-A.length,by omega⟩
     rw[hRS,Zcv (by omega)];exact(k3.2 l (by omega)).len
   have inner:=up (nn z W).length (λ i=>Zi.l2 (row RS (k:Int)) RS (RS.length:Int) (k:Int) ((nn z W).length:Int) (i:Int) m z at_ ((RS.take k).map (pick (nn z W))) ((pick (nn z W) (row RS (k:Int))).take i)) (λ i hi=>by
    obtain⟨a1,a2⟩:=nn_at hi;have ar:=atr i hi;have pl:=ZeN (nn z W) (row RS (k:Int));have pr:=Zes (t:=row RS (k:Int)) hi;have tl:((pick (nn z W) (row RS (k:Int))).take i).length=i:=by rw[List.length_take];omega
    have e:(pick (nn z W) (row RS (k:Int))).take (i+1)=(pick (nn z W) (row RS (k:Int))).take i++[rd (row RS (k:Int)) (((nn z W).getD i 0:Nat):Int)]:=by rw[List.take_add_one,List.getElem?_eq_getElem (by omega),<-rd_get (by omega),pr];rfl
    have l1:([rd (row RS (k:Int)) (((nn z W).getD i 0:Nat):Int)]:List Int).length=1:=rfl;rw[Zi.l2_eq,wn (j:=i) (by omega),ar,e]
    ((with_reducible repeat (first|refine go_p ?_|refine go_n ?_|refine go_b ?_|dsimp only));first|done|(with_reducible rfl)|simp (disch:=omega) only[w64]))
   rw[List.take_zero,<-ZeN (nn z W) (row RS (k:Int)),List.take_length,ZeN]at inner;have inner:Zi.l2 (row RS (k:Int)) RS (RS.length:Int) (k:Int) ((nn z W).length:Int) 0 m z at_ ((RS.take k).map (pick (nn z W))) []=_:=inner;have e:(RS.take (k+1)).map (pick (nn z W))=(RS.take k).map (pick (nn z W))++[pick (nn z W) (row RS (k:Int))]:=by rw[List.take_add_one,List.getElem?_eq_getElem (by omega),<-Zbz (by omega),List.map_append];rfl
   have l1:([pick (nn z W) (row RS (k:Int))]:List (List Int)).length=1:=rfl;have l2:((RS.take k).map (pick (nn z W))).length=k:=by rw[List.length_map,List.length_take];omega
   have fin:Zi.l2 (row RS (k:Int)) RS (RS.length:Int) (k:Int) ((nn z W).length:Int) ((nn z W).length:Int) m z at_ ((RS.take k).map (pick (nn z W))) (pick (nn z W) (row RS (k:Int)))=Zi.l1 RS (RS.length:Int) ((k+1:Nat):Int) m z at_ ((RS.take (k+1)).map (pick (nn z W))):=by
    rw[Zi.l2_eq,wn (j:=k) (by omega),e]
    ((with_reducible repeat (first|refine go_p ?_|refine go_n ?_|refine go_b ?_|dsimp only));first|done|(with_reducible rfl)|simp (disch:=omega) only[w64])
   rw[<-ih (k+1) (by omega),<-fin,<-inner,Zi.l1_eq,atl]
   ((with_reducible repeat (first|refine go_p ?_|refine go_n ?_|refine go_b ?_|dsimp only));first|done|(with_reducible rfl)|simp (disch:=omega) only[w64])
 have rows:=rows RS.length 0 (by omega);have rows:Zi.l1 RS (RS.length:Int) 0 m z at_ []=_:=rows;obtain⟨ns,r', d1,d2,d3,d4,d5⟩:=ZkY m2 m12 (W:=(nn z W).length) (R:=RS.length) (by omega) (X:=RS.map (pick (nn z W))) (List.length_map ..) (by omega) (λ k hk=>by
  rw[Zb0 _ _ hk];refine⟨ZeN ..,λ c hc=>?_⟩;rw[Zes hc];obtain⟨a1,a2⟩:=nn_at hc
  by_cases h:k<A.length
  ·rw[hRS,ZcE h];have:=(k2.2 k (by omega)).bd _ a1;omega
  ·
   obtain⟨l,rfl⟩:∃l,k=A.length+l:=⟨k-A.length,by omega⟩
   rw[hRS,Zcv (by omega)];have:=(k3.2 l (by omega)).bd _ a1;omega)
 refine⟨ns,?_,d2,d3,d4,d5.eqd (.of λ c=>by rw[hRS];exact(RelMx m2 m12 hz hb k2 k3 c).symm)⟩
 have dl:=Zkw (F:=λ z0=>(ZW.f z0).map λ z=>z) (p:=λ x=>decide (x=1)) ns (by omega) λ x _=>by
  show(ZW.f x).map _=_;rw[ZW.f_eq]
  rfl
 rw[Zi.f_eq,zl,cols,Zi.l0_eq,zl,k1,<-hRS];have ne:¬ (W:Int)<(W:Int):=by omega
 rw[if_neg ne,Option.bind_some,rows,Zi.l1_eq,atl];have ne2:¬ (RS.length:Int)<(RS.length:Int):=by omega
 rw[if_neg ne2,d1,Option.bind_some];show(Zt.f ns _).bind _=_;rw[dl,Option.bind_some]
end
theorem ZmS {m:Int} {ns:List Int} (h1:∀n∈ns,0<n/\n∣m) (h2:ns.Pairwise λ a b=>a∣b):Chn m (ns.filter λ x=>!decide (x=1))/\(∀t∈qs,cq t.1 (ns.filter λ x=>!decide (x=1))=cq t.1 ns):=by
 refine⟨⟨λ x hx=>?_,h2.filter _⟩,λ t ht=>?_⟩
 ·rw[List.mem_filter,Bool.not_eq_true', decide_eq_false_iff_not]at hx;have:=h1 x hx.1;exact⟨by omega,this.2⟩
 ·
  have t2:2<=t.1:=by
   have:qs.all (λ t=>decide (2<=t.1))=true:=by decide
   simpa using List.all_eq_true.1 this t ht
  rw[cq,cq,List.countP_filter];refine List.countP_congr λ x hx=>?_
  rw[Bool.and_eq_true,decide_eq_true_iff,Bool.not_eq_true', decide_eq_false_iff_not];refine⟨λ h=>h.1,λ h=>⟨h,λ e=>?_⟩⟩;rw[e,Int.emod_eq_of_lt (by omega) (by omega)]at h;omega
end Go.Proofs.YtdamfbighdkcbaaGreat.V
set_option maxHeartbeats 2000000
namespace Go.Proofs.YtdamfbighdkcbaaGreat.V
open Go.RowKit Go.Proofs.YtdamfbighdkcbaaGreat.D Go.Proofs.YtdamfbighdkcbaaGreat.P
theorem less_ (a b:Int):Zah.f a b=some (decide (a<b)):=by rw[Zah.f_eq,ZaS.f_eq,ZaS.f_eq];simp
theorem le_at {xs:List Int} (hs:xs.Pairwise (· <= ·)) {i j:Nat} (hij:i<=j) (hj:j<xs.length):rd xs (i:Int)<=rd xs (j:Int):=by
 rw[rd_get (by omega),rd_get hj]
 by_cases e:i=j
 ·subst e;exact Int.le_refl _
 ·exact(List.pairwise_iff_getElem.1 hs) i j (by omega) hj (by omega)
theorem ZmX {xs:List Int} (hl:xs.length<=1000) (hs:xs.Pairwise (· <= ·)):Ze.f xs 0 (xs.length:Int)=some xs:=by
 have loop:∀(d i:Nat),1<=i->i+d=max 1 xs.length->Ze.l0 0 (xs.length:Int) (i:Int) xs=some xs:=by
  intro d
  induction d with
  | zero =>
   intro i _ hi;rw[Ze.l0_eq]
   ((with_reducible repeat (first|refine go_p ?_|refine go_n ?_|refine go_b ?_|dsimp only));first|done|(with_reducible rfl)|simp (disch:=omega) only[w64])
  | succ d ih =>
   intro i i1 hi;have h:=le_at hs (i:=i-1) (j:=i) (by omega) (by omega);have w:wrapI ((i:Int)-1)=((i-1:Nat):Int):=by rw[w64 (by omega) (by omega)];omega
   have hd:decide (rd xs (i:Int)<rd xs ((i-1:Nat):Int))=false:=decide_eq_false (by omega);have step:Ze.l1 0 (xs.length:Int) (i:Int) (i:Int) xs=Ze.l0 0 (xs.length:Int) ((i+1:Nat):Int) xs:=by
    rw[Ze.l1_eq,w,less_,hd,Option.bind_some,wn (j:=i) (by omega)];simp only[Bool.false_eq_true,if_false]
    ((with_reducible repeat (first|refine go_p ?_|refine go_n ?_|refine go_b ?_|dsimp only));first|done|(with_reducible rfl)|simp (disch:=omega) only[w64])
   rw[Ze.l0_eq,step,ih (i+1) (by omega) (by omega)]
   ((with_reducible repeat (first|refine go_p ?_|refine go_n ?_|refine go_b ?_|dsimp only));first|done|(with_reducible rfl)|simp (disch:=omega) only[w64])
 have w1:wrapI (0+1)=((1:Nat):Int):=by rw[w64 (by omega) (by omega)];rfl
 rw[Ze.f_eq,w1];exact loop (max 1 xs.length-1) 1 (by omega) (by omega)
theorem Zl2 {xs:List Int} (hl:xs.length<=1000) (h2:2<=xs.length) (hs:xs.Pairwise (· <= ·)):Zd.f xs 0 (xs.length:Int)=some (true,xs):=by
 have loop:∀(d i:Nat),1<=i->i+d=xs.length->Zd.l1 0 (xs.length:Int) (i:Int) 0 xs=some (true,xs):=by
  intro d
  induction d with
  | zero =>
   intro i _ hi;have:i=xs.length:=by omega
   subst this;rw[Zd.l1_eq]
   ((with_reducible repeat (first|refine go_p ?_|refine go_n ?_|refine go_b ?_|dsimp only));first|done|(with_reducible rfl)|simp (disch:=omega) only[w64])
  | succ d ih =>
   intro i i1 hi;have h:=le_at hs (i:=i-1) (j:=i) (by omega) (by omega);have w:wrapI ((i:Int)-1)=((i-1:Nat):Int):=by rw[w64 (by omega) (by omega)];omega
   have hd:decide (rd xs (i:Int)<rd xs ((i-1:Nat):Int))=false:=decide_eq_false (by omega);rw[Zd.l1_eq,w,less_,hd,Option.bind_some,wn (j:=i) (by omega),ih (i+1) (by omega) (by omega)];simp only[Bool.false_eq_true,if_false]
   ((with_reducible repeat (first|refine go_p ?_|refine go_n ?_|refine go_b ?_|dsimp only));first|done|(with_reducible rfl)|simp (disch:=omega) only[w64])
 have w1:wrapI (0+1)=((1:Nat):Int):=by rw[w64 (by omega) (by omega)];rfl
 rw[Zd.f_eq,w1,Zd.l0_eq,loop (xs.length-1) 1 (by omega) (by omega)]
 ((with_reducible repeat (first|refine go_p ?_|refine go_n ?_|refine go_b ?_|dsimp only));first|done|(with_reducible rfl)|simp (disch:=omega) only[w64])
theorem Zeq {xs:List Int} (hs:xs.Pairwise (· <= ·)) {i j:Nat} (hij:i<=j) (hj:j<xs.length) (s:Int):ZD.f xs (i:Int) (j:Int) s=some ((i:Int),(j:Int),s):=by
 have h:=le_at hs hij hj;have hd:decide (rd xs (j:Int)<rd xs (i:Int))=false:=decide_eq_false (by omega);rw[ZD.f_eq,less_,hd,Option.bind_some];simp only[Bool.false_eq_true,if_false]
 ((with_reducible repeat (first|refine go_p ?_|refine go_n ?_|refine go_b ?_|dsimp only));first|done|(with_reducible rfl)|simp (disch:=omega) only[w64])
theorem Zi1 {xs:List Int} (hs:xs.Pairwise (· <= ·)) {i j k:Nat} (hij:i<=j) (hjk:j<=k) (hk:k<xs.length) (s:Int):ZL.f xs (i:Int) (j:Int) (k:Int) s=some ((j:Int),s):=by
 rw[ZL.f_eq,Zeq hs hij (by omega)];simp only[Option.bind_some];rw[Zeq hs hjk hk];simp only[Option.bind_some];rw[Zeq hs hij (by omega)]
 rfl
theorem ZkQ {xs:List Int} (hs:xs.Pairwise (· <= ·)) (h1:8<=xs.length) (h2:xs.length<50):Zx.f xs 0 (xs.length:Int)=some (((xs.length / 4*2:Nat):Int),1):=by
 have w:wrapI ((xs.length:Int)-0)=(xs.length:Int):=by rw[w64 (by omega) (by omega)];omega
 have q:wrapI (Int.tdiv (xs.length:Int) 4)=((xs.length / 4:Nat):Int):=by rw[Zdy (by omega),w64 (by omega) (by omega)];omega
 have m1:wrapI (0+wrapI (((xs.length / 4:Nat):Int)*1))=((xs.length / 4:Nat):Int):=by rw[w64 (x:=((xs.length / 4:Nat):Int)*1) (by omega) (by omega),w64 (by omega) (by omega)];omega
 have m2:wrapI (0+wrapI (((xs.length / 4:Nat):Int)*2))=((xs.length / 4*2:Nat):Int):=by rw[w64 (x:=((xs.length / 4:Nat):Int)*2) (by omega) (by omega),w64 (by omega) (by omega)];omega
 have m3:wrapI (0+wrapI (((xs.length / 4:Nat):Int)*3))=((xs.length / 4*3:Nat):Int):=by rw[w64 (x:=((xs.length / 4:Nat):Int)*3) (by omega) (by omega),w64 (by omega) (by omega)];omega
 rw[Zx.f_eq,w,q,m1,m2,m3,Zi1 hs (by omega) (by omega) (by omega)];simp only[Option.bind_some,if_true]
 ((with_reducible repeat (first|refine go_p ?_|refine go_n ?_|refine go_b ?_|dsimp only));first|done|(with_reducible rfl)|simp (disch:=omega) only[w64])
theorem Zmn {xs:List Int} (hl:xs.length<50) (hs:xs.Pairwise (· <= ·)):Zaw.f xs=some xs:=by
 have hw:wr .u64 (xs.length:Int)=(xs.length:Int):=by
  show hid (IntKind.wrap .u64 _)=_;rw[ZcW];obtain⟨n,hn⟩:∃n,n=xs.length:=⟨_,rfl⟩
  rw[<-hn]at hl ⊢;have:∀n:Fin 50,IntKind.wrap .u64 ((n:Nat):Int)=((n:Nat):Int):=by decide
  exact this ⟨n,by omega⟩
 have hb:∃y,bits_Len.f (xs.length:Int)=some y/\(13<=xs.length->¬ y=0):=by
  refine⟨_,if_pos ⟨by omega,by omega⟩,λ h e=>?_⟩;obtain⟨n,hn⟩:∃n,n=xs.length:=⟨_,rfl⟩
  rw[<-hn]at hl h e;have:∀n:Fin 50,13<=(n:Nat)->¬ Lib.bitLen (n:Nat)=0:=by decide +kernel
  have e:((Lib.bitLen ((n:Int)).toNat:Nat):Int)=0:=e;rw[Int.toNat_natCast]at e;exact this ⟨n,by omega⟩ h (by exact_mod_cast e)
 obtain⟨y,hb,hy⟩:=hb;have w:wrapI ((xs.length:Int)-0)=(xs.length:Int):=by rw[w64 (by omega) (by omega)];omega
 have key:Zp.f xs 0 (xs.length:Int) y=some xs:=by
  rw[Zp.f_eq,Zp.l0_eq,w]
  by_cases h:xs.length<=12
  ·
   rw[if_pos (by omega),ZmX (by omega) hs]
   rfl
  ·
   rw[if_neg (by omega),if_neg (hy (by omega)),ZkQ hs (by omega) hl,Zl2 (by omega) (by omega) hs]
   rfl
 rw[Zaw.f_eq,hw,hb,Option.bind_some,key]
 rfl
end Go.Proofs.YtdamfbighdkcbaaGreat.V
set_option maxHeartbeats 4000000
namespace Go.Proofs.YtdamfbighdkcbaaGreat.V
open Go.RowKit Go.Proofs.YtdamfbighdkcbaaGreat.D Go.Proofs.YtdamfbighdkcbaaGreat.P
theorem Zlo {m:Int} (m2:2<=m) (m12:m<=12) {W:Nat} {p:List (List Int)} {M:Vc->Prop} (h:Lead m W p M):0<ct m W M:=by
 have e:=ZiQ m2 m12 h;have:0<m.toNat ^ W:=Nat.pow_pos (by omega);rcases Nat.eq_zero_or_pos (ct m W M)with z|z
 ·rw[z,Nat.zero_mul]at e;omega
 ·exact z
theorem InvOf.same {m:Int} (m2:2<=m) (m12:m<=12) {W:Nat} {Z Bs:Vc->Prop} (hB:Sub m W Bs) (hBZ:∀x,Bs x->Z x) {L L' : List Int} (h:InvOf m W Z Bs L) (h' : InvOf m W Z Bs L'):L=L':=by
 obtain⟨p,ns,a1,a2,a3,a4,_,a6⟩:=h.dia;obtain⟨p', ns', b1,b2,b3,b4,_,b6⟩:=h'.dia;refine ZmF m2 m12 h.chn h'.chn λ t ht=>?_
 rw[a4 t ht,b4 t ht];refine Zn0 m2 m12 a2 b2 (λ d d0 hd=>?_) ht;have e:=Zol (by omega) a1 b1;have k1:=Zl9 (m:=m) (by omega) (G:=gen p (nn p W)) a1.sub hB (Zdq m2 m12 a1) hBZ (L:=λ c=>Bs (cmb (gen p (nn p W)) c (nn p W).length)) (λ c=>Iff.rfl) d;have k2:=Zl9 (m:=m) (by omega) (G:=gen p' (nn p' W)) b1.sub hB (Zdq m2 m12 b1) hBZ (L:=λ c=>Bs (cmb (gen p' (nn p' W)) c (nn p' W).length)) (λ c=>Iff.rfl) d;rw[a6 d d0 hd]at k1;rw[b6 d d0 hd,<-e,<-k1]at k2;exact(Nat.eq_of_mul_eq_mul_right (Zlo m2 m12 a1) k2).symm
theorem Zhb {g:List (List Int)} (hg:Grp g) {m:Int} {u:List Int} (hm:Mdl g m u) {n:Nat} (hn:n<=3) (hr:nB g n<=49):∃L,ZaB.f g m u (n:Int)=some L/\Zf.f g m u (n:Int)=some L/\InvOf m (nB g n) (coM g m u n) (Sp m (nB g n) (bdG g m u n)) L/\L.length<=49:=by
 have m2:=hm.m2;have m12:=hm.m12
 obtain⟨z,z1,z2⟩:=ZdO hg hm hn;obtain⟨b,b1,b2⟩:=ZeY hg hm hn;have b2:=b2.lead (by omega);have hBZ:∀x,Sp m (nB g n) (bdG g m u n) x->coM g m u n x:=λ x hx=>bd_co hg hm hn hx
 obtain⟨ns,k1,k2,k3,k4,k5⟩:=ZiD m2 m12 (by omega) z2 b2 hBZ m;obtain⟨c1,c2⟩:=ZmS k3 k4;obtain⟨L', l1,l2⟩:=ZfJ hg hm hn hr;have fl:(ns.filter λ x=>!decide (x=1)).length<=ns.length:=List.length_filter_le ..;have nz:=nn_le z (nB g n);have hI:InvOf m (nB g n) (coM g m u n) (Sp m (nB g n) (bdG g m u n)) (ns.filter λ x=>!decide (x=1)):=⟨c1,z,ns,z2,k3,k2,c2,fl,k5⟩
 have e:=hI.same m2 m12 b2.sub hBZ l2;refine⟨ns.filter λ x=>!decide (x=1),?_,by rw[e];exact l1,hI,by omega⟩;have srt:(ns.filter λ x=>!decide (x=1)).Pairwise (· <= ·):=c1.dvd.imp_of_mem λ {a b} ha hb h=>Int.le_of_dvd (by have:=(c1.ent b hb).1;omega) h
 rw[Zmn (by omega) srt]at k1;rw[ZaB.f_eq,z1,Option.bind_some,b1,Option.bind_some];show(Zi.f m z m b).bind _=_;rw[k1]
 rfl
end Go.Proofs.YtdamfbighdkcbaaGreat.V
set_option maxRecDepth 100000
namespace Go.Proofs.YtdamfbighdkcbaaGreat.P
open Go Go.RowKit Go.Proofs.YtdamfbighdkcbaaGreat.D
end Go.Proofs.YtdamfbighdkcbaaGreat.P
set_option maxRecDepth 20000
namespace Go.Proofs.YtdamfbighdkcbaaGreat.V
open Go.RowKit Go.Proofs.YtdamfbighdkcbaaGreat.D Go.Proofs.YtdamfbighdkcbaaGreat.P
theorem Co.nB {g:List (List Int)} (hg:Grp g) {m:Int} {k:Nat} {v:List Int} (h:Co g m k v):v.length=nB g k:=by have:=h.2.1;have hk:=h.1.2;obtain⟨b1,b2⟩:=nA_bd hg (e:=k) (by omega);omega
structure LB (g:List (List Int)) (m:Int) (u:List Int) (e:Nat) (v y:List Int):Prop where
 len:y.length=nB g e
 ent:AllIn m y
 mem:allM g m u e (V (v++y))
 lt:∀q,Lead m (nB g e) q (coM g m u e)->∀j:Nat,j<nB g e->rd y (j:Int)<dv m q j
theorem LB.same {g:List (List Int)} {m:Int} {u:List Int} {e:Nat} {v y y' : List Int} (m0:0<m) (hv:v.length=nB g (e+1)) {q:List (List Int)} (hq:Lead m (nB g e) q (coM g m u e)) (h:LB g m u e v y) (h' : LB g m u e v y'):y=y':=by
 have hd:coM g m u e λ i=>rd y (i:Int)-rd y' (i:Int):=by
  refine .alike ((show Sp m _ _ _ from h.mem).plus ((show Sp m _ _ _ from h'.mem).mul (-1))) λ i hi=>ZaG ?_
  show rd (v++y) (i:Int) + -1*rd (v++y') (i:Int)=pad (nB g (e+1)) (λ i=>rd y (i:Int)-rd y' (i:Int)) i;unfold pad
  by_cases k:i<nB g (e+1)
  ·rw[if_pos k,ZbH (by omega),ZbH (by omega)];omega
  ·rw[if_neg k,ZbN (by omega),ZbN (by omega),hv];dsimp only;omega
 exact Least.same m0 hq hq (x:=y) ⟨h.len,h.ent,hq.sub.alike _ _ hq.sub.zero λ i _=>ZaG (by simp),h.lt q hq⟩ ⟨h'.len,h'.ent,hd,h'.lt q hq⟩
theorem Zk9 {g:List (List Int)} {m:Int} (m0:0<m) {u:List Int} {e:Nat} {p:List (List Int)} (hM:Lead m (nB g (e+1)+nB g e) p (allM g m u e)) (x:Vc) :
  (∃z,allM g m u e z/\∀i,i<nB g (e+1)->m∣z i-x i)↔Sp m (nB g (e+1)) (bdG g m u (e+1)) x:=
 ZgB (λ i hi=>ZbX ..) hM (hM.first m0 (q:=Zef p (nB g (e+1))) (by simp[Zef]) λ j hj=>ZgO hj).sub x
end Go.Proofs.YtdamfbighdkcbaaGreat.V
set_option maxHeartbeats 8000000
namespace Go.Proofs.YtdamfbighdkcbaaGreat.V
open Go.RowKit Go.Proofs.YtdamfbighdkcbaaGreat.D Go.Proofs.YtdamfbighdkcbaaGreat.P
def sumL:List Int->Int
 | []=>0
 | x :: l=>x+sumL l
theorem Zmr {l l' : List Int} (h:l.Perm l'):sumL l=sumL l':=by
 induction h with
 | nil=>rfl
 | cons x _ ih=>show x+_=x+_;rw[ih]
 | swap x y l=>show y+(x+_)=x+(y+_);omega
 | trans _ _ h1 h2=>exact h1.trans h2
def sG (n:Nat) (F:Int->Int):Int:=sumL ((List.range n).map λ i:Nat=>F (i:Int))
theorem Znk (a b:List Int):sumL (a++b)=sumL a+sumL b:=by
 induction a with
 | nil=>show _=0+_;rw[Int.zero_add];rfl
 | cons x a ih=>show x+sumL (a++b)=x+sumL a+sumL b;rw[ih,Int.add_assoc]
theorem ZcB (n:Nat) (F:Int->Int):sG (n+1) F=sG n F+F (n:Int):=by unfold sG;rw[List.range_succ,List.map_append,Znk];show _+(F (n:Int)+0)=_;rw[Int.add_zero]
theorem sG_cg {m:Int} {F F' : Int->Int}:∀n:Nat,(∀x:Int,0<=x->x<n->cg m (F x) (F' x))->cg m (sG n F) (sG n F')
 | 0,_=>ZeZ _ _
 | n+1,h=>by rw[ZcB,ZcB];exact ZhP (sG_cg n λ x x0 x1=>h x x0 (by omega)) (h n (by omega) (by omega))
theorem Zkb {F F' : Int->Int}:∀n:Nat,(∀x:Int,0<=x->x<n->F x=F' x)->sG n F=sG n F'
 | 0,_=>rfl
 | n+1,h=>by rw[ZcB,ZcB,Zkb n λ x x0 x1=>h x x0 (by omega),h n (by omega) (by omega)]
theorem Ziw (F F' : Int->Int):∀n:Nat,sG n (λ x=>F x+F' x)=sG n F+sG n F'
 | 0=>rfl
 | n+1=>by rw[ZcB,ZcB,ZcB,Ziw F F' n];omega
theorem ZgP (F F' : Int->Int):∀n:Nat,sG n (λ x=>F x-F' x)=sG n F-sG n F'
 | 0=>rfl
 | n+1=>by rw[ZcB,ZcB,ZcB,ZgP F F' n];omega
theorem Zkc (c:Int) (F:Int->Int):∀n:Nat,sG n (λ x=>c*F x)=c*sG n F
 | 0=>(Int.mul_zero c).symm
 | n+1=>by rw[ZcB,ZcB,Zkc c F n,Int.mul_add]
theorem Zc9 (c:Int):∀n:Nat,sG n (λ _=>c)=(n:Int)*c
 | 0=>(Int.zero_mul c).symm
 | n+1=>by rw[ZcB,Zc9 c n,Int.natCast_add,Int.add_mul];omega
theorem ZoC {F:Int->Int} (n:Nat) (h:∀x:Int,0<=x->x<n->F x=0):sG n F=0:=by rw[Zkb n h,Zc9,Int.mul_zero]
theorem Ziq:∀{l l' : List Nat},l.Nodup->l'.Nodup->(∀x,x∈l↔x∈l')->l.Perm l'
 | [],[],_,_,_=>.nil
 | [],y :: l', _,_,h=>absurd ((h y).2 List.mem_cons_self) (by simp)
 | x :: l,l', h1,h2,h=>by
  have hx:=(h x).1 List.mem_cons_self;refine .trans (.cons x (Ziq (List.nodup_cons.1 h1).2 (h2.erase x) λ y=>?_)) (List.perm_cons_erase hx).symm;rw[h2.mem_erase_iff,<-h y,List.mem_cons]
  constructor
  ·intro hy;exact⟨λ e=>(List.nodup_cons.1 h1).1 (e ▸ hy),.inr hy⟩
  ·
   rintro⟨h3,h4|h4⟩
   ·exact absurd h4 h3
   ·exact h4
theorem Zjm {g:List (List Int)} (hg:Grp g) {a:Int} (a0:0<=a) (a1:a<g.length) (F:Int->Int):sG g.length (λ x=>F (T g a x))=sG g.length F:=by
 obtain⟨b,b0,b1,hab,hba⟩:=hg.inv2 a0 a1;have back:∀x:Int,0<=x->x<g.length->T g b (T g a x)=x:=λ x x0 x1=>by rw[<-hg.assoc b a x b0 b1 a0 a1 x0 x1,hba,hg.one x x0 x1]
 have forth:∀x:Int,0<=x->x<g.length->T g a (T g b x)=x:=λ x x0 x1=>by rw[<-hg.assoc a b x a0 a1 b0 b1 x0 x1,hab,hg.one x x0 x1]
 have e:(List.range g.length).map (λ i:Nat=>F (T g a (i:Int)))=((List.range g.length).map λ i:Nat=>(T g a (i:Int)).toNat).map λ i:Nat=>F (i:Int):=by
  rw[List.map_map];refine List.map_congr_left λ i hi=>?_
  have hi:=List.mem_range.1 hi;show _=F (((T g a (i:Int)).toNat:Nat):Int);rw[Int.toNat_of_nonneg (hg.ent a i a0 a1 (by omega) (by omega)).1]
 unfold sG;rw[e];refine Zmr (List.Perm.map _ (Ziq ?_ List.nodup_range λ x=>?_))
 ·
  refine List.pairwise_map.2 (List.Pairwise.imp_of_mem (λ {x y} hx hy hne he=>hne ?_) List.nodup_range);have hx:=List.mem_range.1 hx;have hy:=List.mem_range.1 hy;have k1:=(hg.ent a x a0 a1 (by omega) (by omega)).1;have k2:=(hg.ent a y a0 a1 (by omega) (by omega)).1;have:T g a (x:Int)=T g a (y:Int):=by omega
  have:=congrArg (T g b) this;rw[back x (by omega) (by omega),back y (by omega) (by omega)]at this;omega
 ·
  rw[List.mem_map,List.mem_range]
  constructor
  ·rintro⟨i,hi,rfl⟩;have hi:=List.mem_range.1 hi;have:=hg.ent a i a0 a1 (by omega) (by omega);omega
  ·intro hx;obtain⟨k0,k1⟩:=hg.ent b x b0 b1 (by omega) (by omega);refine⟨(T g b (x:Int)).toNat,List.mem_range.2 (by omega),?_⟩;rw[Int.toNat_of_nonneg k0,forth x (by omega) (by omega)];omega
noncomputable def av (g:List (List Int)) (f:List Int) (e:Nat):List Int:=tl g e (λ ys=>sG g.length λ x=>At g f (ys++[x]))
theorem At_av {g:List (List Int)} (hg:Grp g) {f:List Int} {e:Nat} (he:e<=3) {ys:List Int} (hy:AllIn g.length ys) (hl:ys.length=e):At g (av g f e) ys=sG g.length λ x=>At g f (ys++[x]):=by
 unfold av;rw[At_tl hg (by omega) _ hy hl]
 by_cases h:Zb2 ys
 ·rw[Zb4 h]
 ·
  rw[Zb9 h,ZoC];intro x _ _;refine ZkX λ k=>h λ j j0 j1=>?_
  have:=k j j0 (by rw[List.length_append];omega)
  obtain⟨n,rfl⟩:=Int.eq_ofNat_of_zero_le j0;rwa[ZbH (by omega)]at this
section
variable {g:List (List Int)} {m:Int} {u f:List Int}
theorem At_d3 (hg:Grp g) (hm:Mdl g m u) {x y z w:Int} (x0:0<=x) (x1:x<g.length) (y0:0<=y) (y1:y<g.length) (z0:0<=z) (z1:z<g.length) (w0:0<=w) (w1:w<g.length):cg m (At g (bdL g m u f 3) [x,y,z,w]) (rd u x*At g f [y,z,w]-At g f [T g x y,z,w]+At g f [x,T g y z,w]-At g f [x,y,T g z w]+At g f [x,y,z]):=by
 by_cases h:x=0
 ·subst h;rw[show At g (bdL g m u f 3) [0,y,z,w]=0 from At0 (a:=[]),hm.one hg,hg.one y y0 y1,show At g f [0,T g y z,w]=0 from At0 (a:=[]),show At g f [0,y,T g z w]=0 from At0 (a:=[]),show At g f [0,y,z]=0 from At0 (a:=[])];exact Zda (by omega)
 ·
  by_cases k:y=0
  ·subst k;rw[show At g (bdL g m u f 3) [x,0,z,w]=0 from At0 (a:=[x]),hg.one' x x0 x1,hg.one z z0 z1,show At g f [0,z,w]=0 from At0 (a:=[]),show At g f [x,0,T g z w]=0 from At0 (a:=[x]),show At g f [x,0,z]=0 from At0 (a:=[x])];exact Zda (by omega)
  ·
   by_cases l:z=0
   ·subst l;rw[show At g (bdL g m u f 3) [x,y,0,w]=0 from At0 (a:=[x,y]),hg.one' y y0 y1,hg.one w w0 w1,show At g f [y,0,w]=0 from At0 (a:=[y]),show At g f [T g x y,0,w]=0 from At0 (a:=[T g x y]),show At g f [x,y,0]=0 from At0 (a:=[x,y])];exact Zda (by omega)
   ·
    by_cases p:w=0
    ·subst p;rw[show At g (bdL g m u f 3) [x,y,z,0]=0 from At0 (a:=[x,y,z]),hg.one' z z0 z1,show At g f [y,z,0]=0 from At0 (a:=[y,z]),show At g f [T g x y,z,0]=0 from At0 (a:=[T g x y,z]),show At g f [x,T g y z,0]=0 from At0 (a:=[x,T g y z])];exact Zda (by omega)
    ·
     have hin:AllIn g.length [x,y,z,w]:=ZbO λ a ha=>by simp only[List.mem_cons,List.not_mem_nil,or_false]at ha;rcases ha with rfl|rfl|rfl|rfl<;>omega
     rw[Zjs hg (d:=3) (by omega) hin rfl (Zcz.2 ⟨h,Zcz.2 ⟨k,Zcz.2 ⟨l,Zhg.2 p⟩⟩⟩),bdQ];exact ZhQ m _
theorem ZiM (hg:Grp g) (hm:Mdl g m u) {n:Nat} (hn:n<=3) (hl:f.length=nB g n) (hc:coM g m u n (V f)) (xs:List Int):At g (bdL g m u f n) xs=0:=by
 have m2:=hm.m2;have hz:coM g m u n (V f)↔allM g m u n (V (List.replicate (nB g (n+1)) 0++f)):=by
  unfold coM allM;rw[show pad (nB g (n+1)) (V f)=V (List.replicate (nB g (n+1)) 0++f)from ?_]
  funext k
  unfold pad
  by_cases hk:k<nB g (n+1)
  ·rw[if_pos hk];show 0=rd (List.replicate (nB g (n+1)) 0++f) (k:Int);rw[ZbH (by rw[List.length_replicate];exact hk),ZbV]
  ·rw[if_neg hk];show rd f _=rd (List.replicate (nB g (n+1)) 0++f) (k:Int);rw[ZbN (by rw[List.length_replicate];omega),List.length_replicate]
 rw[hz,ZgZ hg m2 hn List.length_replicate]at hc;have z:∀i:Nat,rd (bdL g m u f n) (i:Int)=0:=λ i=>by
  by_cases hi:i<nB g (n+1)
  ·have:=hc i hi;rw[ZbV,Int.zero_sub,Int.dvd_neg]at this;have bl:(bdL g m u f n).length=nB g (n+1):=ZbX ..;rw[rd_get (by omega)];show(((List.range (cells g ((n+1:Nat):Int)).toNat).map λ i=>bdV g u f n i%m)[i]'(by simpa [nB] using hi))=0;simp only[List.getElem_map,List.getElem_range];exact Int.emod_eq_zero_of_dvd this
  ·
   rw[Zcu,List.getD_eq_getElem?_getD,List.getElem?_eq_none (by have bl:(bdL g m u f n).length=nB g (n+1):=ZbX ..;omega)]
   rfl
 unfold At
 by_cases h:Zb2 xs
 ·rw[Zb4 h];have:=z (idx g xs).toNat;rw[Zcu]at this;exact this
 ·rw[Zb9 h]
end
section
variable {g:List (List Int)} {m:Int} {u f:List Int}
theorem av0 (hg:Grp g) (hm:Mdl g m u) (hl:f.length=nB g 1) (hc:coM g m u 1 (V f)) {x:Int} (x0:0<=x) (x1:x<g.length):cg m (Bd g u (av g f 0) [x] 0) (-((g.length:Int)*At g f [x])):=by
 have hn:AllIn g.length ([]:List Int):=ZbO λ z hz=>by cases hz
 rw[bdZ,At_av hg (e:=0) (by omega) hn rfl];have s:=sG_cg (m:=m) (F:=λ y=>rd u x*At g f [y]-At g f [T g x y]+At g f [x]) (F':=λ _=>0) g.length λ y y0 y1=>by have:=(At_d1 hg hm (v:=f) x0 x1 y0 y1).symm;rwa[ZiM hg hm (by omega) hl hc]at this
 rw[Ziw (λ y=>rd u x*At g f [y]-At g f [T g x y]) (λ _=>At g f [x]),ZgP (λ y=>rd u x*At g f [y]) (λ y=>At g f [T g x y]),Zkc,Zjm hg x0 x1 (λ y=>At g f [y]),Zc9,Zc9,Int.mul_zero]at s;obtain⟨q,hq⟩:=s;exact⟨q,by rw[<-hq];show rd u x*sG g.length (λ x=>At g f [x])-sG g.length (λ x=>At g f [x])-_=_;omega⟩
theorem av1 (hg:Grp g) (hm:Mdl g m u) (hl:f.length=nB g 2) (hc:coM g m u 2 (V f)) {x y:Int} (x0:0<=x) (x1:x<g.length) (y0:0<=y) (y1:y<g.length):cg m (Bd g u (av g f 1) [x,y] 1) ((g.length:Int)*At g f [x,y]):=by
 obtain⟨t0,t1⟩:=hg.ent x y x0 x1 y0 y1;rw[bdO,At_av hg (e:=1) (by omega) (ZdJ y0 y1) rfl,At_av hg (e:=1) (by omega) (ZdJ t0 t1) rfl,At_av hg (e:=1) (by omega) (ZdJ x0 x1) rfl];have s:=sG_cg (m:=m) (F:=λ z=>rd u x*At g f [y,z]-At g f [T g x y,z]+At g f [x,T g y z]-At g f [x,y]) (F':=λ _=>0) g.length λ z z0 z1=>by have:=(At_d2 hg hm (v:=f) x0 x1 y0 y1 z0 z1).symm;rwa[ZiM hg hm (by omega) hl hc]at this
 rw[ZgP (λ z=>rd u x*At g f [y,z]-At g f [T g x y,z]+At g f [x,T g y z]) (λ _=>At g f [x,y]),Ziw (λ z=>rd u x*At g f [y,z]-At g f [T g x y,z]) (λ z=>At g f [x,T g y z]),ZgP (λ z=>rd u x*At g f [y,z]) (λ z=>At g f [T g x y,z]),Zkc,Zjm hg y0 y1 (λ z=>At g f [x,z]),Zc9,Zc9,Int.mul_zero]at s;obtain⟨q,hq⟩:=s;exact⟨q,by rw[<-hq];show rd u x*sG g.length (λ z=>At g f [y,z])-sG g.length (λ z=>At g f [T g x y,z])+sG g.length (λ z=>At g f [x,z])-_=_;omega⟩
theorem av2 (hg:Grp g) (hm:Mdl g m u) (hl:f.length=nB g 3) (hc:coM g m u 3 (V f)) {x y z:Int} (x0:0<=x) (x1:x<g.length) (y0:0<=y) (y1:y<g.length) (z0:0<=z) (z1:z<g.length):cg m (Bd g u (av g f 2) [x,y,z] 2) (-((g.length:Int)*At g f [x,y,z])):=by
 obtain⟨t0,t1⟩:=hg.ent x y x0 x1 y0 y1;obtain⟨s0,s1⟩:=hg.ent y z y0 y1 z0 z1;rw[bdT,At_av hg (e:=2) (by omega) (Zdb y0 y1 z0 z1) rfl,At_av hg (e:=2) (by omega) (Zdb t0 t1 z0 z1) rfl,At_av hg (e:=2) (by omega) (Zdb x0 x1 s0 s1) rfl,At_av hg (e:=2) (by omega) (Zdb x0 x1 y0 y1) rfl];have s:=sG_cg (m:=m) (F:=λ w=>rd u x*At g f [y,z,w]-At g f [T g x y,z,w]+At g f [x,T g y z,w]-At g f [x,y,T g z w]+At g f [x,y,z]) (F':=λ _=>0) g.length λ w w0 w1=>by have:=(At_d3 hg hm (f:=f) x0 x1 y0 y1 z0 z1 w0 w1).symm;rwa[ZiM hg hm (by omega) hl hc]at this
 rw[Ziw (λ w=>rd u x*At g f [y,z,w]-At g f [T g x y,z,w]+At g f [x,T g y z,w]-At g f [x,y,T g z w]) (λ _=>At g f [x,y,z]),ZgP (λ w=>rd u x*At g f [y,z,w]-At g f [T g x y,z,w]+At g f [x,T g y z,w]) (λ w=>At g f [x,y,T g z w]),Ziw (λ w=>rd u x*At g f [y,z,w]-At g f [T g x y,z,w]) (λ w=>At g f [x,T g y z,w]),ZgP (λ w=>rd u x*At g f [y,z,w]) (λ w=>At g f [T g x y,z,w]),Zkc,Zjm hg z0 z1 (λ w=>At g f [x,y,w]),Zc9,Zc9,Int.mul_zero]at s;obtain⟨q,hq⟩:=s;exact⟨q,by rw[<-hq];show rd u x*sG g.length (λ w=>At g f [y,z,w])-sG g.length (λ w=>At g f [T g x y,z,w])+sG g.length (λ w=>At g f [x,T g y z,w])-sG g.length (λ w=>At g f [x,y,w])-_=_;omega⟩
theorem ZoS (hg:Grp g) (hm:Mdl g m u) {e:Nat} (he:e<=2) (hl:f.length=nB g (e+1)) (hc:coM g m u (e+1) (V f)):∃s:Int,s*s=1/\∀xs,AllIn g.length xs->xs.length=e+1->cg m (Bd g u (av g f e) xs e) (s*((g.length:Int)*At g f xs)):=by
 have c:e=0\/e=1\/e=2:=by omega
 rcases c with rfl|rfl|rfl
 ·
  refine⟨-1,rfl,λ xs hx hl'=>?_⟩
  match xs,hl' with
  | [x],_ =>
   obtain⟨a0,a1⟩:=hx.mem (x:=x) (by simp);rw[Int.neg_mul,Int.one_mul];exact av0 hg hm hl hc a0 a1
 ·
  refine⟨1,rfl,λ xs hx hl'=>?_⟩
  match xs,hl' with
  | [x,y],_ =>
   obtain⟨a0,a1⟩:=hx.mem (x:=x) (by simp);obtain⟨b0,b1⟩:=hx.mem (x:=y) (by simp);rw[Int.one_mul];exact av1 hg hm hl hc a0 a1 b0 b1
 ·
  refine⟨-1,rfl,λ xs hx hl'=>?_⟩
  match xs,hl' with
  | [x,y,z],_ =>
   obtain⟨a0,a1⟩:=hx.mem (x:=x) (by simp);obtain⟨b0,b1⟩:=hx.mem (x:=y) (by simp);obtain⟨c0,c1⟩:=hx.mem (x:=z) (by simp);rw[Int.neg_mul,Int.one_mul];exact av2 hg hm hl hc a0 a1 b0 b1 c0 c1
theorem killed (hg:Grp g) (hm:Mdl g m u) {e:Nat} (he:e<=2) {x:Vc} (hx:coM g m u (e+1) x):Sp m (nB g (e+1)) (bdG g m u (e+1)) (λ i=>(g.length:Int)*x i):=by
 have m2:=hm.m2;have hs:Sub m (nB g (e+1)) (coM g m u (e+1)):=(ZdO hg hm (by omega)).choose_spec.2.sub;obtain⟨f,hf⟩:∃f,f=nf m (nB g (e+1)) x:=⟨_,rfl⟩
 have fl:f.length=nB g (e+1):=by rw[hf,ZeJ]
 have hc:coM g m u (e+1) (V f):=hs.alike _ _ hx λ i hi=>by rw[hf];exact Zc0 hi
 obtain⟨s,s2,H⟩:=ZoS hg hm he fl hc;obtain⟨p,h1,h2⟩:=Zjy hg hm (n:=e) (by omega);have hM:=h2.lead (by omega);have hM:Lead m (nB g (e+1)+nB g e) p (allM g m u e):=hM;obtain⟨c1,c2⟩:=nA_bd hg (e:=e+1) (by omega);obtain⟨w,hw⟩:∃w:List Int,w=f.map λ n=>s*((g.length:Int)*n):=⟨_,rfl⟩
 have wl:w.length=nB g (e+1):=by rw[hw,List.length_map];exact fl
 have wr:∀i:Nat,i<nB g (e+1)->rd w (i:Int)=s*((g.length:Int)*rd f (i:Int)):=λ i hi=>by rw[rd_get (by omega),rd_get (show i<f.length by omega)];simp[hw]
 have key:Sp m (nB g (e+1)) (bdG g m u (e+1)) (V w):=by
  refine(Zk9 (by omega) hM (V w)).1 ⟨V (w++av g f e),(ZgZ hg m2 (by omega) wl).2 λ i hi=>?_,λ i hi=>ZaG ?_⟩
  ·
   have hgl:=Zf4 hg (n:=e+1) (i:=i) (by omega);have:=(H _ hgl.1 (ZcO ..)).symm;have ix:idx g (lst ((g.length:Int)-1) (e+1) (i:Int))=(i:Int):=Zoa (e+1) (i:Int) (by omega) (by have:cells g ((e+1:Nat):Int)=((g.length:Int)-1) ^ (e+1):=rfl;rw[<-this,<-c2];omega) (cells_two hg (n:=e+1) (by omega))
   have at_:At g f (lst ((g.length:Int)-1) (e+1) (i:Int))=rd f (i:Int):=by unfold At;rw[Zb4 hgl.2,ix]
   rw[at_]at this;rw[wr i hi];exact this
  ·show rd (w++_) (i:Int)=rd w (i:Int);rw[ZbH (by omega)]
 refine(key.mul s).alike λ i hi=>?_
 show m∣s*rd w (i:Int)-(g.length:Int)*x i;rw[wr i hi,<-Int.mul_assoc,s2,Int.one_mul,<-Int.mul_sub];refine Int.dvd_mul_of_dvd_right ?_;rw[hf];exact ZbI (Zc0 hi)
end
theorem Znu {m d n:Int} (m0:0<m) (n0:0<n) (hn:n∣m):gq m m n<=gq m d n/\0<gq m m n/\(gq m d n=gq m m n->n∣d):=by
 obtain⟨k,hk⟩:=hn;have k0:0<k:=by
  rcases Int.lt_or_le 0 k with w|w
  ·exact w
  ·have:=Int.mul_nonneg (show 0<=n by omega) (show 0 <= -k by omega);rw[Int.mul_neg]at this;omega
 have e1:((Int.gcd n m:Nat):Int)=n:=by rw[Int.gcd_eq_natAbs_left ⟨k,hk⟩];omega
 obtain⟨G,hG⟩:∃G:Int,G=((Int.gcd n d:Nat):Int):=⟨_,rfl⟩
 have g0:0<G:=by rw[hG];exact_mod_cast Int.gcd_pos_of_ne_zero_left d (by omega)
 obtain⟨j,hj⟩:G∣n:=by rw[hG];exact Int.gcd_dvd_left ..
 have j0:0<j:=by
  rcases Int.lt_or_le 0 j with w|w
  ·exact w
  ·have:=Int.mul_nonneg (show 0<=G by omega) (show 0 <= -j by omega);rw[Int.mul_neg]at this;omega
 have q1:m / n=k:=by have:=Int.mul_ediv_cancel_left k (show n≠0 by omega);rwa[<-hk]at this
 have q2:m / G=j*k:=by have:=Int.mul_ediv_cancel_left (j*k) (show G≠0 by omega);rwa[<-Int.mul_assoc,<-hj,<-hk]at this
 have f1:gq m m n=k.toNat:=by show(m / ((Int.gcd n m:Nat):Int)).toNat=_;rw[e1,q1]
 have f2:gq m d n=(j*k).toNat:=by show(m / ((Int.gcd n d:Nat):Int)).toNat=_;rw[<-hG,q2]
 have jk:k<=j*k:=by have:=Int.mul_le_mul_of_nonneg_right (show 1<=j by omega) (show 0<=k by omega);rwa[Int.one_mul]at this
 rw[f1,f2];refine⟨by omega,by omega,λ h=>?_⟩;have:j*k=1*k:=by omega
 have j1:j=1:=Int.eq_of_mul_eq_mul_right (by omega) this;have:n=G:=by rw[hj,j1,Int.mul_one]
 rw[this,hG];exact Int.gcd_dvd_right ..
theorem Zhr {α:Type} {F F' : α->Nat}:∀l:List α,(∀x∈l,F x<=F' x/\0<F x)->prodN (l.map F)<=prodN (l.map F')/\0<prodN (l.map F)/\(prodN (l.map F')=prodN (l.map F)->∀x∈l,F' x=F x)
 | [],_=>⟨Nat.le_refl _,by show 0<1;omega,λ _ x hx=>by cases hx⟩
 | x :: l,h=>by
  obtain⟨h1,h2,h3⟩:=Zhr l λ y hy=>h y (List.mem_cons_of_mem _ hy)
  obtain⟨a,b⟩:=h x List.mem_cons_self;simp only[List.map_cons,prodN];refine⟨Nat.mul_le_mul a h1,Nat.mul_pos b h2,λ e=>?_⟩;have e1:F' x=F x:=by
   rcases Nat.lt_or_ge (F x) (F' x)with w|w
   ·have:F x*prodN (l.map F)<F' x*prodN (l.map F):=Nat.mul_lt_mul_of_pos_right w h2;have:=Nat.mul_le_mul_left (F' x) h1;omega
   ·omega
  rw[e1]at e;have e2:=Nat.eq_of_mul_eq_mul_left b e;intro y hy;rcases List.mem_cons.1 hy with rfl|hy
  ·exact e1
  ·exact h3 e2 y hy
theorem ZoT:((List.range 13).all λ m=>(List.range 13).all λ n=>decide (m<2) || decide (n=0) || (List.range 13).any λ a=>decide (a*n%m=Nat.gcd n m%m))=true:=by decide +kernel
theorem Zn4:((List.range 13).all λ x=>(List.range 13).all λ n=>decide (x=0) || decide (n=0) || decide (n%x=0) || qs.any λ t=>decide (x%t.1=0) && decide (¬ n%t.1=0))=true:=by decide +kernel
theorem dvq {x n:Int} (x0:0<x) (x12:x<=12) (n0:0<n) (n12:n<=12) (h:∀t∈qs,x%(t.1:Int)=0->n%(t.1:Int)=0):x∣n:=by
 obtain⟨X,rfl⟩:=Int.eq_ofNat_of_zero_le (show 0<=x by omega);obtain⟨Y,rfl⟩:=Int.eq_ofNat_of_zero_le (show 0<=n by omega);have k:=List.all_eq_true.1 (List.all_eq_true.1 Zn4 X (List.mem_range.2 (by omega))) Y (List.mem_range.2 (by omega));rw[Bool.or_eq_true,Bool.or_eq_true,Bool.or_eq_true,decide_eq_true_iff,decide_eq_true_iff,decide_eq_true_iff]at k;rcases k with ((k|k)|k)|k
 ·omega
 ·omega
 ·exact Int.natCast_dvd_natCast.2 (Nat.dvd_of_mod_eq_zero k)
 ·obtain⟨t,ht,k⟩:=List.any_eq_true.1 k;rw[Bool.and_eq_true,decide_eq_true_iff,decide_eq_true_iff]at k;have:=h t ht (by rw[<-Int.natCast_emod,k.1];rfl);rw[<-Int.natCast_emod]at this;exact absurd (by exact_mod_cast this) k.2
theorem Zn1 {q:Nat} {l:List Int} (h:0<cq q l):∃n∈l,n%(q:Int)=0:=by obtain⟨n,hn,e⟩:=List.countP_pos_iff.1 h;exact⟨n,hn,by simpa using e⟩
theorem ZoU {q:Nat} {l:List Int} {n:Int} (hn:n∈l) (h:n%(q:Int)=0):0<cq q l:=List.countP_pos_iff.2 ⟨n,hn,by simpa using h⟩
section
variable {m:Int} {W:Nat} {Z Bs:Vc->Prop} {L:List Int}
theorem InvOf.kill (m2:2<=m) (m12:m<=12) (hB:Sub m W Bs) (hmB:∀z:Vc,Bs λ i=>m*z i) (h:InvOf m W Z Bs L) {N:Nat} (N1:1<=N) (N12:N<=12) (hk:∀z:Vc,Z z->Bs λ i=>(N:Int)*z i):∀x∈L,x∣(N:Int):=by
 obtain⟨p,ns,a1,a2,a3,a4,_,a6⟩:=h.dia;obtain⟨M,rfl⟩:=Int.eq_ofNat_of_zero_le (show 0<=m by omega);obtain⟨G,hG⟩:∃G:Int,G=((Nat.gcd N M:Nat):Int):=⟨_,rfl⟩
 have g0:0<G:=by rw[hG];exact_mod_cast Nat.gcd_pos_of_pos_left M (by omega)
 have gm:G∣(M:Int):=by rw[hG];exact Int.natCast_dvd_natCast.2 (Nat.gcd_dvd_right ..)
 have gn:G∣(N:Int):=by rw[hG];exact Int.natCast_dvd_natCast.2 (Nat.gcd_dvd_left ..)
 have hg:∀z,Z z->Bs λ i=>G*z i:=λ z hz=>by
  have k:=List.all_eq_true.1 (List.all_eq_true.1 ZoT M (List.mem_range.2 (by omega))) N (List.mem_range.2 (by omega));rw[Bool.or_eq_true,Bool.or_eq_true,decide_eq_true_iff,decide_eq_true_iff]at k;rcases k with (k|k)|k
  ·omega
  ·omega
  ·
   obtain⟨a,_,ha⟩:=List.any_eq_true.1 k;rw[decide_eq_true_iff]at ha;refine hB.alike _ _ (hB.lin _ _ hB.zero (hk z hz) (a:Int)) λ i hi=>?_
   have e:(M:Int)∣(a:Int)*(N:Int)-G:=by rw[hG];refine Int.dvd_of_emod_eq_zero (Int.emod_eq_emod_iff_emod_sub_eq_zero.1 ?_);rw[<-Int.natCast_mul,<-Int.natCast_emod,<-Int.natCast_emod,ha]
   have:=Int.dvd_mul_of_dvd_left (c:=z i) e;rw[Int.sub_mul,Int.mul_assoc]at this;show(M:Int)∣0+(a:Int)*((N:Int)*z i)-G*z i;rwa[Int.zero_add]
 have hn:∀n∈ns,n∣G:=by
  have ea:∀d:Int,(∀z,Z z->Bs λ i=>d*z i)->ad (M:Int) (nn p W).length d (λ c=>Bs (cmb (gen p (nn p W)) c (nn p W).length))=λ c=>Bs (cmb (gen p (nn p W)) c (nn p W).length):=λ d hd=>by
   funext x
   refine propext ⟨λ⟨l,e,h1,h2⟩=>?_,λ hx=>⟨x,λ _=>0,hx,λ i _=>ZaG (by show x i+d*0=x i;omega)⟩⟩
   have hz:Z (cmb (gen p (nn p W)) e (nn p W).length):=(Zdq m2 m12 a1 _).2 ⟨e,λ i _=>ZaG rfl⟩;refine hB.alike _ _ (hB.lin _ _ h1 (hd _ hz) 1) λ i hi=>?_
   have k1:=ZcT (m:=(M:Int)) (G:=gen p (nn p W)) (c:=λ i=>l i+d*e i) (e:=x) i (nn p W).length h2;rw[Zcg]at k1;rwa[Int.one_mul]
  have k1:=a6 G g0 gm;have k2:=a6 (M:Int) (by omega) (Int.dvd_refl _);rw[ea G hg]at k1;rw[ea (M:Int) λ z _=>hmB z,k1]at k2;have le:=Zhr (F:=λ n=>gq (M:Int) (M:Int) n) (F':=λ n=>gq (M:Int) G n) ns λ n hn=>by obtain⟨b1,b2⟩:=a2 n hn;obtain⟨c1,c2,_⟩:=Znu (d:=G) (by omega) b1 b2;exact⟨c1,c2⟩
  intro n hn;obtain⟨b1,b2⟩:=a2 n hn;exact(Znu (d:=G) (by omega) b1 b2).2.2 (le.2.2 k2 n hn)
 intro x hx;obtain⟨x2,xm⟩:=h.chn.ent x hx;have xle:=Int.le_of_dvd (by omega) xm;refine dvq (by omega) (by omega) (by omega) (by omega) λ t ht hxt=>?_
 have:=ZoU hx hxt;rw[a4 t ht]at this;obtain⟨n,n1,n2⟩:=Zn1 this;exact Int.emod_eq_zero_of_dvd (Int.dvd_trans (Int.dvd_of_emod_eq_zero n2) (Int.dvd_trans (hn n n1) gn))
end
theorem ms_bd {m:Int} {W:Nat} {Bs:Vc->Prop} (hB:Sub m W Bs) (z:Vc):Bs λ i=>m*z i:=hB.alike _ _ hB.zero λ i _=>⟨-(z i),by rw[Int.mul_neg];omega⟩
theorem Zod {g:List (List Int)} (hg:Grp g) {m:Int} {u:List Int} (hm:Mdl g m u) {e:Nat} (he:e<=2) {L:List Int} (h:InvOf m (nB g (e+1)) (coM g m u (e+1)) (Sp m (nB g (e+1)) (bdG g m u (e+1))) L):∀x∈L,x∣(g.length:Int):=
 h.kill hm.m2 hm.m12 Sp.sub (ms_bd Sp.sub) hg.n1 (by have:=hg.n8;omega) λ z hz=>killed hg hm he hz
end Go.Proofs.YtdamfbighdkcbaaGreat.V
set_option maxHeartbeats 4000000
namespace Go.Proofs.YtdamfbighdkcbaaGreat.V
open Go Go.RowKit Go.Proofs.YtdamfbighdkcbaaGreat.D Go.Proofs.YtdamfbighdkcbaaGreat.P
structure Src (c:List Int) (i:Int):Prop where
 ent:∀x∈c,0<=x/\x<=255
 len:c.length<=4096
 i0:0<=i
 i1:i<=c.length
theorem wrU {x:Int} (h0:0<=x) (h1:x<18446744073709551616):wr .u64 x=x:=by show hid _=_;rw[ZcW];simp[IntKind.wrap,IntKind.bits,IntKind.signed];omega
theorem andB (x:Int) {m:Int} (m0:0<=m) (hm:m<18446744073709551616):∃o:Int,andI .u64 x m=o/\0<=o/\o<=m:=by
 obtain⟨M,rfl⟩:=Int.eq_ofNat_of_zero_le m0;have hlt:(BitVec.ofInt 64 x &&& BitVec.ofInt 64 (M:Int)).toNat<=M:=by rw[BitVec.toNat_and];refine Nat.le_trans Nat.and_le_right ?_;rw[BitVec.toNat_ofInt];omega
 refine⟨((BitVec.ofInt 64 x &&& BitVec.ofInt 64 (M:Int)).toNat:Nat),?_,by omega,by omega⟩;show hid _=_;rw[ZcW];show wr .u64 (((BitVec.ofInt 64 x &&& BitVec.ofInt 64 (M:Int)).toNat:Nat):Int)=_;exact wrU (by omega) (by omega)
theorem From_ {c:List Int} (hc:∀x∈c,0<=x/\x<=255) (hl:c.length<=4096):∃h,ZaP.f c=some (c,0,h)/\Src c 0:=by
 have main:∀(n k:Nat) (h:Int),k+n=c.length->∃h', ZaP.l0 c (k:Int) c 0 h=some (c,0,h'):=by
  intro n
  induction n with
  | zero =>
   intro k h hk;exact⟨h,by rw[ZaP.l0_eq,if_neg (by omega)]⟩
  | succ n ih =>
   intro k h hk;obtain⟨h', e⟩:=ih (k+1) (wr .u64 ((wr .u64 ((wr .u64 (h*1099511628211))+(wr .u64 (rd c (k:Int)))))+197)) (by omega);refine⟨h', ?_⟩;rw[ZaP.l0_eq,if_pos (by omega),if_pos (by omega),if_pos (by omega),if_pos (by omega),wn (j:=k) (by omega)];exact e
 obtain⟨h,e⟩:=main c.length 0 (wr .u64 (13631+(wr .u64 (c.length:Int)))) (by omega);exact⟨h,by rw[ZaP.f_eq];exact e,hc,hl,by omega,by omega⟩
theorem Next_ {c:List Int} {i:Int} (h:Src c i) (hh n:Int) (hn:n<=4611686018427387904):∃x j h', ZQ.f c i hh n=some (x,c,j,h')/\Src c j/\0<=x/\(1<=n->x<n)/\(n<1->x=0):=by
 have hl:=h.len;rw[ZQ.f_eq]
 by_cases h1:n<1
 ·rw[if_pos h1];exact⟨0,i,hh,rfl,h,by omega,λ q=>by omega,λ _=>rfl⟩
 rw[if_neg h1];obtain⟨o,ho,o0,o1⟩:=andB (shrI .u64 (wr .u64 ((wr .u64 (hh*6364136223846793005))+1442695040888963407)) 33) (m:=16777215) (by omega) (by omega);rw[ho,w64 (x:=o) (by omega) (by omega)]
 by_cases h2:i<(c.length:Int)
 ·obtain⟨a0,a1⟩:=h.ent _ (ZbU h.i0 h2);have i0:=h.i0;rw[if_pos h2,if_pos h.i0,if_pos h2,if_neg (by omega),w64 (x:=rd c i) (by omega) (by omega),w64 (x:=o+rd c i) (by omega) (by omega),w64 (x:=i+1) (by omega) (by omega),Zcc (show 0<=o+rd c i by omega)];exact⟨_,_,_,rfl,⟨h.ent,h.len,by omega,by omega⟩,Int.emod_nonneg _ (by omega),λ _=>Int.emod_lt_of_pos _ (by omega),λ q=>by omega⟩
 ·rw[if_neg h2,if_neg (by omega),Zcc o0];exact⟨_,_,_,rfl,h,Int.emod_nonneg _ (by omega),λ _=>Int.emod_lt_of_pos _ (by omega),λ q=>by omega⟩
theorem Pick_ {c:List Int} {i:Int} (h:Src c i) (hh:Int) (L:List Int) (h0:0<L.length) (h1:L.length<=1000):∃x j h', Zam.f c i hh L=some (x,c,j,h')/\Src c j/\x∈L:=by obtain⟨x,j,h', e,s,x0,x1,_⟩:=Next_ h hh (L.length:Int) (by omega);have x1:=x1 (by omega);exact⟨rd L x,j,h', by rw[Zam.f_eq,e,Option.bind_some,if_pos x0,if_pos x1],s,ZbU x0 x1⟩
theorem Near_ {c:List Int} {i:Int} (h:Src c i) (hh most:Int) (m0 : -1000000<=most) (m1:most<=1000000):∃x j h', Za0.f c i hh most=some (x,c,j,h')/\Src c j:=by
 obtain⟨x,j,h', e,s,x0,x1,_⟩:=Next_ h hh 14 (by omega);rw[Za0.f_eq,e,Option.bind_some,w64 (x:=most+1) (by omega) (by omega)]
 by_cases q:x=0
 ·obtain⟨y,j', h2,e2,s2,_⟩:=Pick_ s h' [-1,most+1,1099511627776,-4611686018427387904] (by simp) (by simp);rw[if_pos q,e2];exact⟨y,j', h2,rfl,s2⟩
 ·obtain⟨y,j', h2,e2,s2,_⟩:=Next_ s h' (most+1) (by omega);rw[if_neg q,e2];exact⟨y,j', h2,rfl,s2⟩
structure OrdL (n:Nat) (p:List Int):Prop where
 len:p.length=n
 ent:∀x∈p,0<=x/\x<n
 nd:p.Nodup
theorem OrdL.ordr {n:Nat} {p:List Int} (h:OrdL n p):Ordr n p where
 len:=h.len
 ent:=λ i hi=>h.ent _ (ZbU (by omega) (by rw[h.len];omega))
 inj:=λ i j hi hj e=>by
  rw[rd_get (by rw[h.len];exact hi),rd_get (by rw[h.len];exact hj)]at e
  have hi' : i<p.length:=by rw[h.len];exact hi
  have hj' : j<p.length:=by rw[h.len];exact hj
  exact(List.getElem?_inj hi' h.nd).1 (by rw[List.getElem?_eq_getElem hi', List.getElem?_eq_getElem hj', e])
theorem ZoO {c:List Int} {i:Int} (h:Src c i) (hh:Int) {n:Nat} (hn:n<=100):∃p j h', ZV.f c i hh (n:Int)=some (p,c,j,h')/\Src c j/\OrdL n p:=by
 have main:∀(m k:Nat) (p:List Int) (i hh:Int),k+m=n->Src c i->OrdL k p->∃p' j h', ZV.l0 (n:Int) p (k:Int) c i hh=some (p', c,j,h')/\Src c j/\OrdL n p':=by
  intro m
  induction m with
  | zero =>
   intro k p i hh hk hs hp;exact⟨p,i,hh,by rw[ZV.l0_eq,if_neg (by omega)],hs,by rw[<-show k=n by omega];exact hp⟩
  | succ m ih =>
   intro k p i hh hk hs hp;have pl:=hp.len;obtain⟨x,j,h', e,s,x0,x1,_⟩:=Next_ hs hh ((k:Int)+1) (by omega);have x1:=x1 (by omega);have ho:=Own_ (p.take x.toNat) (by rw[List.length_take];omega);have hperm:((p.take x.toNat++[(k:Int)])++p.drop x.toNat).Perm ((k:Int) :: p):=by
    have:=(List.perm_middle (a:=(k:Int)) (l₁:=p.take x.toNat) (l₂:=p.drop x.toNat))
    rw[List.take_append_drop]at this
    simpa using this
   have hp' : OrdL (k+1) ((p.take x.toNat++[(k:Int)])++p.drop x.toNat):=by
    refine⟨by rw[hperm.length_eq,List.length_cons,pl],λ y hy=>?_,hperm.nodup_iff.2 (List.nodup_cons.2 ⟨λ q=>?_,hp.nd⟩)⟩
    ·
     rcases List.mem_cons.1 (hperm.mem_iff.1 hy)with rfl|q
     ·omega
     ·have:=hp.ent y q;omega
    ·have:=hp.ent _ q;omega
   obtain⟨p', j', h2,e2,s2,o2⟩:=ih (k+1) _ j h' (by omega) s hp';refine⟨p', j', h2,?_,s2,o2⟩;have tl:(p.take x.toNat).length<=k:=by rw[List.length_take];omega
   have dl:(p.drop x.toNat).length<=k:=by rw[List.length_drop];omega
   have l1:([(k:Int)]:List Int).length=1:=rfl;rw[ZV.l0_eq,if_pos (by omega),w64 (x:=(k:Int)+1) (by omega) (by omega),e];dsimp only[Option.bind_some];rw[if_pos x0,if_pos (by omega),ho];dsimp only[Option.bind_some];rw[if_pos (by rw[l1];omega),if_pos x0,if_pos (by omega),if_pos (by rw[List.length_append,l1];omega)];exact e2
 obtain⟨p,j,h', e,s,o⟩:=main n 0 [] i hh (by omega) h ⟨rfl,λ x hx=>(by cases hx),List.nodup_nil⟩;exact⟨p,j,h', by rw[ZV.f_eq];exact e,s,o⟩
theorem ZhI {c:List Int} {i:Int} (h:Src c i) (hh:Int) {n:Nat} (n1:1<=n) (hn:n<=100):∃p j h', ZC.f c i hh (n:Int)=some (p,c,j,h')/\Src c j/\OrdL n p/\rd p 0=0:=by
 obtain⟨p,j,h', e,s,o⟩:=ZoO h hh (n:=n-1) (by omega);have pl:=o.len;have hw:wrapI ((n:Int)-1)=((n-1:Nat):Int):=by rw[w64 (by omega) (by omega)];omega
 have main:=up p.length (λ k=>ZC.l0 p (k:Int) c j h' (0 :: (p.take k).map (· + 1))) (λ k hk=>by
  have l1:(0 :: (p.take k).map (· + 1):List Int).length=k+1:=by rw[List.length_cons,List.length_map,List.length_take];omega
  have l2:∀x:Int,([x]:List Int).length=1:=λ _=>rfl
  obtain⟨a0,a1⟩:=o.ent _ (ZbU (xs:=p) (i:=(k:Int)) (by omega) (by omega));rw[Zet hk,List.map_append,List.map_singleton,<-List.cons_append,ZC.l0_eq,w64 (x:=rd p (k:Int)+1) (by omega) (by omega),l1,l2,wn (j:=k) (by omega)]
  ((with_reducible repeat (first|refine go_p ?_|refine go_n ?_|refine go_b ?_|dsimp only));first|done|(with_reducible rfl)|simp (disch:=omega) only[w64]))
 simp only[Int.natCast_zero,List.take_zero,List.map_nil,List.take_length]at main;refine⟨0 :: p.map (· + 1),j,h', ?_,s,⟨by rw[List.length_cons,List.length_map];omega,λ x hx=>?_,List.nodup_cons.2 ⟨λ q=>?_,?_⟩⟩,rfl⟩
 ·rw[ZC.f_eq,hw,e];show ZC.l0 p 0 c j h' [0]=_;rw[main,ZC.l0_eq,if_neg (by omega)]
 ·
  rcases List.mem_cons.1 hx with rfl|q
  ·omega
  ·obtain⟨y,hy,rfl⟩:=List.mem_map.1 q;have:=o.ent y hy;omega
 ·obtain⟨y,hy,q⟩:=List.mem_map.1 q;have:=o.ent y hy;omega
 ·rw[List.Nodup,List.pairwise_map];exact List.Pairwise.imp (λ {a b} h q=>h (by omega)) o.nd
def setsL {α:Type} (p:List Int) (v:Nat->α):Nat->List α->List α
 | 0,r=>r
 | k+1,r=>(setsL p v k r).set (rd p (k:Int)).toNat (v k)
theorem Zdh {α:Type} (p:List Int) (v:Nat->α) (r:List α):∀k,(setsL p v k r).length=r.length
 | 0=>rfl
 | k+1=>by rw[setsL,List.length_set,Zdh p v r k]
theorem Zgm {α:Type} {n:Nat} {p:List Int} (hp:Ordr n p) (v:Nat->α) {r:List α} (hr:r.length=n) {i:Nat} (hi:i<n):∀k,k<=n->(setsL p v k r)[(rd p (i:Int)).toNat]? = if i<k then some (v i)else r[(rd p (i:Int)).toNat]?:=by
 intro k
 induction k with
 | zero=>intro _;rw[if_neg (by omega)];rfl
 | succ k ih =>
  intro hk;have ih:=ih (by omega);obtain⟨a0,a1⟩:=hp.ent i hi;obtain⟨b0,b1⟩:=hp.ent k (by omega)
  by_cases q:i=k
  ·subst q;rw[if_pos (by omega),setsL,List.getElem?_set_self (by rw[Zdh];omega)]
  ·
   have hne:(rd p (k:Int)).toNat≠(rd p (i:Int)).toNat:=λ e=>q (hp.inj i k hi (by omega) (by omega))
   rw[setsL,List.getElem?_set_ne hne,ih]
   by_cases q2:i<k
   ·rw[if_pos q2,if_pos (by omega)]
   ·rw[if_neg q2,if_neg (by omega)]
theorem rd_get? {xs:List Int} {i:Nat} {x:Int} (h:xs[i]? = some x):rd xs (i:Int)=x:=by rw[Zcu,List.getD_eq_getElem?_getD,h];rfl
theorem row_get? {g:List (List Int)} {i:Nat} {r:List Int} (h:g[i]? = some r):row g (i:Int)=r:=by simp[row,List.getD_eq_getElem?_getD,h]
def renR (g:List (List Int)) (p:List Int) (a:Nat):List Int:=setsL p (λ b=>rd p (T g (a:Int) (b:Int))) g.length (row g (rd p (a:Int)))
def ren (g:List (List Int)) (p:List Int):List (List Int):=setsL p (renR g p) g.length g
theorem Zmb {g:List (List Int)} (hg:Grp g) {p:List Int} (hp:Ordr g.length p) (h0:rd p 0=0):Grp (ren g p):=by
 have hen:∀a:Nat,a<g.length->(row g (rd p (a:Int))).length=g.length:=λ a ha=>by obtain⟨a0,a1⟩:=hp.ent a ha;have:=hg.row _ a0 a1;omega
 have hrow:∀a:Nat,a<g.length->row (ren g p) (rd p (a:Int))=renR g p a:=λ a ha=>by obtain⟨a0,a1⟩:=hp.ent a ha;have:=Zgm hp (renR g p) (r:=g) rfl ha g.length (Nat.le_refl _);rw[if_pos ha]at this;have:=row_get? this;rwa[Int.toNat_of_nonneg a0]at this
 refine ZlJ hg hp h0 (Zdh ..) (λ a ha=>?_) λ a b ha hb=>?_
 ·obtain⟨i,hi,e⟩:=hp.onto (k:=(a:Int)) (by omega) (by omega);rw[<-e,hrow i hi,renR,Zdh,hen i hi]
 ·obtain⟨b0,b1⟩:=hp.ent b hb;have:=Zgm hp (λ b=>rd p (T g (a:Int) (b:Int))) (hen a ha) hb g.length (Nat.le_refl _);rw[if_pos hb]at this;have:=rd_get? this;rw[Int.toNat_of_nonneg b0]at this;show rd (row (ren g p) _) _=_;rw[hrow a ha];exact this
theorem Copy_ (g:List (List Int)) (hl:g.length<=1000000) (hr:∀r∈g,r.length<=1048576):ZaA.f g=some g:=by
 have l1:∀x:List Int,([x]:List (List Int)).length=1:=λ _=>rfl
 have main:=up g.length (λ k=>ZaA.l0 (k:Int) g (g.take k)) (λ k hk=>by
  have ho:=Own_ (row g (k:Int)) (hr _ (Zgi (by omega) (by omega)));have hlen:(g.take k).length=k:=by rw[List.length_take];omega
  have ht:g.take (k+1)=g.take k++[row g (k:Int)]:=by rw[List.take_succ_eq_append_getElem hk,Zbz hk]
  rw[ht,ZaA.l0_eq,ho,Option.bind_some,hlen,l1,wn (j:=k) (by omega)]
  ((with_reducible repeat (first|refine go_p ?_|refine go_n ?_|refine go_b ?_|dsimp only));first|done|(with_reducible rfl)|simp (disch:=omega) only[w64]))
 simp only[Int.natCast_zero,List.take_zero,List.take_length]at main;rw[ZaA.f_eq,main,ZaA.l0_eq,if_neg (by omega)]
theorem ZfV {g:List (List Int)} (hg:Grp g):∀r∈g,r.length<=8:=λ r hr=>by obtain⟨i,i0,i1,rfl⟩:=Zds hr;have:=hg.row i i0 i1;have:=hg.n8;omega
theorem ZfK {g:List (List Int)} (hg:Grp g) {p:List Int} (hp:Ordr g.length p):Zq.f g p=some (ren g p):=by
 have n8:=hg.n8;have pl:=hp.len;have hc:=Copy_ g (by omega) (λ r hr=>by have:=ZfV hg r hr;omega);have main:=up g.length (λ a=>Zq.l0 p (a:Int) g (setsL p (renR g p) a g)) (λ a ha=>by
  obtain⟨pa0,pa1⟩:=hp.ent a ha;have gl:(setsL p (renR g p) a g).length=g.length:=Zdh ..;have hrow:row (setsL p (renR g p) a g) (rd p (a:Int))=row g (rd p (a:Int)):=by
   have h1:=Zgm hp (renR g p) (r:=g) rfl ha a (by omega);rw[if_neg (by omega)]at h1;obtain⟨q,hq⟩:=Int.eq_ofNat_of_zero_le pa0;rw[hq]at h1 ⊢;have hq' : q<g.length:=by omega
   rw[Int.toNat_natCast,List.getElem?_eq_getElem hq']at h1;rw[row_get? h1,Zbz hq']
  have rl:=hg.row _ pa0 (by omega);have ra:=hg.row (a:Int) (by omega) (by omega);have inner:=up g.length (λ b=>Zq.l1 p (a:Int) (b:Int) g (setsL p (λ b=>rd p (T g (a:Int) (b:Int))) b (row g (rd p (a:Int)))) (setsL p (renR g p) a g) (rd p (a:Int))) (λ b hb=>by
   obtain⟨pb0,pb1⟩:=hp.ent b hb;obtain⟨t0,t1⟩:=hg.ent (a:Int) (b:Int) (by omega) (by omega) (by omega) (by omega);have sl:(setsL p (λ b=>rd p (T g (a:Int) (b:Int))) b (row g (rd p (a:Int)))).length=(row g (rd p (a:Int))).length:=Zdh ..;show Zq.l1 p (a:Int) (b:Int) g _ _ _=Zq.l1 p (a:Int) ((b+1:Nat):Int) g ((setsL p (λ b=>rd p (T g (a:Int) (b:Int))) b (row g (rd p (a:Int)))).set (rd p (b:Int)).toNat (rd p (T g (a:Int) (b:Int)))) _ _;rw[Zq.l1_eq,Zal.f_eq,Option.bind_some,sl,wn (j:=b) (by omega)]
   ((with_reducible repeat (first|refine go_p ?_|refine go_n ?_|refine go_b ?_|dsimp only));first|done|(with_reducible rfl)|simp (disch:=omega) only[w64]))
  simp only[Int.natCast_zero,setsL]at inner;rw[Zq.l0_eq,Zal.f_eq,Option.bind_some,gl,hrow,inner,Zq.l1_eq,Zal.f_eq,Option.bind_some,wn (j:=a) (by omega)]
  (with_reducible repeat (first|refine go_p ?_|refine go_n ?_|refine go_b ?_|dsimp only))
  rfl)
 simp only[Int.natCast_zero,setsL]at main;rw[Zq.f_eq,hc,Option.bind_some,main,Zq.l0_eq,Zal.f_eq,Option.bind_some,if_neg (by omega)]
 rfl
theorem bld {α:Type} (f:Nat->α) (k:Nat):(List.range (k+1)).map f=(List.range k).map f++[f k]:=by rw[List.range_succ,List.map_append,List.map_singleton]
theorem ZgV {n:Nat} (n1:1<=n) (n8:n<=8):ZM.f (n:Int)=some (cyc n):=by
 have l1:∀x:Int,([x]:List Int).length=1:=λ _=>rfl
 have l2:∀x:List Int,([x]:List (List Int)).length=1:=λ _=>rfl
 have main:=up n (λ a=>ZM.l0 (n:Int) (a:Int) ((List.range a).map λ a:Nat=>(List.range n).map λ b:Nat=>((a:Int)+(b:Int))%(n:Int))) (λ a ha=>by
  have inner:=up n (λ b=>ZM.l1 (n:Int) (a:Int) (b:Int) ((List.range b).map λ b:Nat=>((a:Int)+(b:Int))%(n:Int)) ((List.range a).map λ a:Nat=>(List.range n).map λ b:Nat=>((a:Int)+(b:Int))%(n:Int))) (λ b hb=>by
   have e:((List.range b).map λ b:Nat=>((a:Int)+(b:Int))%(n:Int)).length=b:=by simp
   rw[bld,ZM.l1_eq,e,l1,w64 (x:=(a:Int)+(b:Int)) (by omega) (by omega),Zcc (show 0<=(a:Int)+(b:Int)by omega),wn (j:=b) (by omega)]
   ((with_reducible repeat (first|refine go_p ?_|refine go_n ?_|refine go_b ?_|dsimp only));first|done|(with_reducible rfl)|simp (disch:=omega) only[w64]))
  simp only[Int.natCast_zero,List.range_zero,List.map_nil]at inner;have e:((List.range a).map λ a:Nat=>(List.range n).map λ b:Nat=>((a:Int)+(b:Int))%(n:Int)).length=a:=by simp
  rw[bld,ZM.l0_eq,if_pos (by omega),inner,ZM.l1_eq,e,l2,wn (j:=a) (by omega)]
  ((with_reducible repeat (first|refine go_p ?_|refine go_n ?_|refine go_b ?_|dsimp only));first|done|(with_reducible rfl)|simp (disch:=omega) only[w64]))
 simp only[Int.natCast_zero,List.range_zero,List.map_nil]at main;rw[ZM.f_eq,main,ZM.l0_eq,if_neg (by omega)]
 rfl
theorem ZgW {g h:List (List Int)} (hg:Grp g) (hh:Grp h):ZI.f g h=some (prd g h):=by
 have l1:∀x:Int,([x]:List Int).length=1:=λ _=>rfl
 have l2:∀x:List Int,([x]:List (List Int)).length=1:=λ _=>rfl
 have g8:=hg.n8;have h8:=hh.n8;have h1:=hh.n1
 obtain⟨N,hN⟩:∃N,N=g.length*h.length:=⟨_,rfl⟩
 have N64:N<=64:=by rw[hN];exact Nat.mul_le_mul g8 h8
 have hw:wrapI ((g.length:Int)*(h.length:Int))=(N:Int):=by rw[hN,Int.natCast_mul,w64]<;>rw[<-Int.natCast_mul,<-hN]<;>omega
 have parts:∀x:Nat,x<N->(0<=(x:Int) / (h.length:Int)/\(x:Int) / (h.length:Int)<g.length)/\0<=(x:Int)%(h.length:Int)/\(x:Int)%(h.length:Int)<h.length/\wrapI ((x:Int).tdiv (h.length:Int))=(x:Int) / (h.length:Int)/\(x:Int).tmod (h.length:Int)=(x:Int)%(h.length:Int):=λ x hx=>by
  have e1:(x:Int) / (h.length:Int)<g.length:=Int.ediv_lt_of_lt_mul (by omega) (by rw[<-Int.natCast_mul,<-hN];omega)
  have e0:0<=(x:Int) / (h.length:Int):=Int.ediv_nonneg (by omega) (by omega);exact⟨⟨e0,e1⟩,Int.emod_nonneg _ (by omega),Int.emod_lt_of_pos _ (by omega),by rw[Zdy (by omega),w64 (by omega) (by omega)],Zcc (by omega)⟩
 have main:=up N (λ a=>ZI.l0 (h.length:Int) (a:Int) g h ((List.range a).map λ x:Nat=>(List.range N).map λ y:Nat=>(h.length:Int)*T g ((x:Int) / (h.length:Int)) ((y:Int) / (h.length:Int))+T h ((x:Int)%(h.length:Int)) ((y:Int)%(h.length:Int)))) (λ a ha=>by
  obtain⟨⟨a0,a1⟩,a2,a3,a4,a5⟩:=parts a ha;have ra:=hg.row _ a0 a1;have rb:=hh.row _ a2 a3;have inner:=up N (λ b=>ZI.l1 (h.length:Int) (a:Int) (b:Int) g h ((List.range b).map λ y:Nat=>(h.length:Int)*T g ((a:Int) / (h.length:Int)) ((y:Int) / (h.length:Int))+T h ((a:Int)%(h.length:Int)) ((y:Int)%(h.length:Int))) ((List.range a).map λ x:Nat=>(List.range N).map λ y:Nat=>(h.length:Int)*T g ((x:Int) / (h.length:Int)) ((y:Int) / (h.length:Int))+T h ((x:Int)%(h.length:Int)) ((y:Int)%(h.length:Int)))) (λ b hb=>by
   obtain⟨⟨b0,b1⟩,b2,b3,b4,b5⟩:=parts b hb;obtain⟨t0,t1⟩:=hg.ent _ _ a0 a1 b0 b1;obtain⟨s0,s1⟩:=hh.ent _ _ a2 a3 b2 b3;have e:((List.range b).map λ y:Nat=>(h.length:Int)*T g ((a:Int) / (h.length:Int)) ((y:Int) / (h.length:Int))+T h ((a:Int)%(h.length:Int)) ((y:Int)%(h.length:Int))).length=b:=by simp
   have p0:0<=(h.length:Int)*T g ((a:Int) / (h.length:Int)) ((b:Int) / (h.length:Int)):=Int.mul_nonneg (by omega) t0;have p1:(h.length:Int)*T g ((a:Int) / (h.length:Int)) ((b:Int) / (h.length:Int))<=8*8:=Int.mul_le_mul (by omega) (by omega) t0 (by omega);rw[bld,ZI.l1_eq,Zal.f_eq,Option.bind_some,hw,e,l1,a4,a5,b4,b5,wn (j:=b) (by omega),w64 (x:=(h.length:Int)*T g ((a:Int) / (h.length:Int)) ((b:Int) / (h.length:Int))) (by omega) (by omega),w64 (x:=(h.length:Int)*T g ((a:Int) / (h.length:Int)) ((b:Int) / (h.length:Int))+T h ((a:Int)%(h.length:Int)) ((b:Int)%(h.length:Int))) (by omega) (by omega)]
   clear a4 b4 a5 b5 hw
   ((with_reducible repeat (first|refine go_p ?_|refine go_n ?_|refine go_b ?_|dsimp only));first|done|(with_reducible rfl)|simp (disch:=omega) only[w64]))
  simp only[Int.natCast_zero,List.range_zero,List.map_nil]at inner;have e:((List.range a).map λ x:Nat=>(List.range N).map λ y:Nat=>(h.length:Int)*T g ((x:Int) / (h.length:Int)) ((y:Int) / (h.length:Int))+T h ((x:Int)%(h.length:Int)) ((y:Int)%(h.length:Int))).length=a:=by simp
  rw[bld,ZI.l0_eq,Zal.f_eq,Option.bind_some,hw,if_pos (by omega),inner,ZI.l1_eq,Zal.f_eq,Option.bind_some,hw,e,l2,wn (j:=a) (by omega)]
  clear a4 a5 hw
  ((with_reducible repeat (first|refine go_p ?_|refine go_n ?_|refine go_b ?_|dsimp only));first|done|(with_reducible rfl)|simp (disch:=omega) only[w64]))
 simp only[Int.natCast_zero,List.range_zero,List.map_nil]at main;rw[ZI.f_eq,Zal.f_eq,Option.bind_some,main,ZI.l0_eq,Zal.f_eq,Option.bind_some,hw,if_neg (by omega),hN]
 rfl
theorem ZgX {n:Nat} (n1:1<=n) (n8:n<=8) {more:Int} (m0:0<=more) (m8:more<=8):ZA.f (n:Int) more=some (twd n more):=by
 have l1:∀x:Int,([x]:List Int).length=1:=λ _=>rfl
 have l2:∀x:List Int,([x]:List (List Int)).length=1:=λ _=>rfl
 have hw:wrapI (2*(n:Int))=((2*n:Nat):Int):=by rw[w64 (by omega) (by omega)];omega
 obtain⟨F,hF⟩:∃F:Nat->Nat->Int,F=λ(a b:Nat)=>(n:Int)*(((a:Int) / n+(b:Int) / n)%2)+((if(b:Int) / n=1 then(b:Int)%n-(a:Int)%n else(a:Int)%n+(b:Int)%n)+more*((a:Int) / n)*((b:Int) / n))%(n:Int):=⟨_,rfl⟩
 have parts:∀x:Nat,x<2*n->(0<=(x:Int) / (n:Int)/\(x:Int) / (n:Int)<=1)/\0<=(x:Int)%(n:Int)/\(x:Int)%(n:Int)<n/\wrapI ((x:Int).tdiv (n:Int))=(x:Int) / (n:Int)/\(x:Int).tmod (n:Int)=(x:Int)%(n:Int):=λ x hx=>by have e1:(x:Int) / (n:Int)<2:=Int.ediv_lt_of_lt_mul (by omega) (by omega);have e0:0<=(x:Int) / (n:Int):=Int.ediv_nonneg (by omega) (by omega);exact⟨⟨e0,by omega⟩,Int.emod_nonneg _ (by omega),Int.emod_lt_of_pos _ (by omega),by rw[Zdy (by omega),w64 (by omega) (by omega)],Zcc (by omega)⟩
 have cell:∀(a b:Nat),a<2*n->b<2*n->∀(r2:List Int) (r3:List (List Int)),r2.length=b->ZA.l1 (n:Int) more (a:Int) (b:Int) r2 r3=ZA.l1 (n:Int) more (a:Int) ((b+1:Nat):Int) (r2++[F a b]) r3:=λ a b ha hb r2 r3 hr=>by
  obtain⟨⟨a0,a1⟩,a2,a3,a4,a5⟩:=parts a ha;obtain⟨⟨b0,b1⟩,b2,b3,b4,b5⟩:=parts b hb;have hFab:F a b=(n:Int)*(((a:Int) / n+(b:Int) / n)%2)+((if(b:Int) / n=1 then(b:Int)%n-(a:Int)%n else(a:Int)%n+(b:Int)%n)+more*((a:Int) / n)*((b:Int) / n))%(n:Int):=by rw[hF]
  rw[hFab,ZA.l1_eq,hw,a4,b4,a5,b5,hr,wn (j:=b) (by omega)]
  clear a4 b4 a5 b5 hw hFab
  generalize (a:Int) / (n:Int)=A at *
  generalize (b:Int) / (n:Int)=B at *
  generalize (a:Int)%(n:Int)=y at *
  generalize (b:Int)%(n:Int)=w at *
  have p0:0<=more*A:=Int.mul_nonneg m0 a0;have p1:more*A<=8*1:=Int.mul_le_mul m8 a1 a0 (by omega);have q0:0<=more*A*B:=Int.mul_nonneg p0 b0;have q1:more*A*B<=8*1:=Int.mul_le_mul (by omega) b1 b0 (by omega);have r0:=Int.emod_nonneg (A+B) (show(2:Int)≠0 by omega);have r1:=Int.emod_lt_of_pos (A+B) (show(0:Int)<2 by omega);have s0:0<=(n:Int)*((A+B)%2):=Int.mul_nonneg (by omega) r0;have s1:(n:Int)*((A+B)%2)<=8*1:=Int.mul_le_mul (by omega) (by omega) r0 (by omega);rw[w64 (x:=more*A) (by omega) (by omega),w64 (x:=more*A*B) (by omega) (by omega),w64 (x:=A+B) (by omega) (by omega),Zcc (show 0<=A+B by omega),w64 (x:=(n:Int)*((A+B)%2)) (by omega) (by omega),w64 (x:=w-y) (by omega) (by omega),w64 (x:=y+w) (by omega) (by omega),w64 (x:=w-y+more*A*B) (by omega) (by omega),w64 (x:=y+w+more*A*B) (by omega) (by omega)];have hn:¬ (n:Int)=0:=by omega
  rw[if_pos (by omega),if_neg hn,if_neg hn,if_neg hn,if_neg hn]
  by_cases hB:B=1
  ·have u0:=Int.emod_nonneg (w-y+more*A*B) hn;have u1:=Int.emod_lt_of_pos (w-y+more*A*B) (show(0:Int)<n by omega);rw[if_pos hB,if_pos hB,Mod_ (by omega) (by omega) (by omega) (by omega),Option.bind_some,if_pos (by rw[l1];omega),w64 (x:=(n:Int)*((A+B)%2)+(w-y+more*A*B)%(n:Int)) (by omega) (by omega)]
  ·have u0:=Int.emod_nonneg (y+w+more*A*B) hn;have u1:=Int.emod_lt_of_pos (y+w+more*A*B) (show(0:Int)<n by omega);rw[if_neg hB,if_neg hB,Mod_ (by omega) (by omega) (by omega) (by omega),Option.bind_some,if_pos (by rw[l1];omega),w64 (x:=(n:Int)*((A+B)%2)+(y+w+more*A*B)%(n:Int)) (by omega) (by omega)]
 have main:=up (2*n) (λ a=>ZA.l0 (n:Int) more (a:Int) ((List.range a).map λ a:Nat=>(List.range (2*n)).map λ b:Nat=>F a b)) (λ a ha=>by
  have inner:=up (2*n) (λ b=>ZA.l1 (n:Int) more (a:Int) (b:Int) ((List.range b).map λ b:Nat=>F a b) ((List.range a).map λ a:Nat=>(List.range (2*n)).map λ b:Nat=>F a b)) (λ b hb=>by rw[bld];exact cell a b ha hb _ _ (by simp))
  simp only[Int.natCast_zero,List.range_zero,List.map_nil]at inner;have e:((List.range a).map λ a:Nat=>(List.range (2*n)).map λ b:Nat=>F a b).length=a:=by simp
  rw[bld,ZA.l0_eq,hw,if_pos (by omega),inner,ZA.l1_eq,hw,e,l2,wn (j:=a) (by omega),if_neg (by omega),if_pos (by omega)])
 simp only[Int.natCast_zero,List.range_zero,List.map_nil]at main;rw[ZA.f_eq,main,ZA.l0_eq,hw,if_neg (by omega),hF]
 rfl
theorem wrB {x:Int} (h0:0<=x) (h1:x<256):wr .u8 x=x:=by show hid _=_;rw[ZcW];simp[IntKind.wrap,IntKind.bits,IntKind.signed];omega
theorem ZnQ {d:Nat} (d1:1<=d) (d8:d<=8) {s:ByteArray} (h1:¬ s=⟨#[107,108,101,105,110]⟩) (h2:¬ s=⟨#[99,117,98,101]⟩) (h3:¬ s=⟨#[99,50,99,52]⟩) (h4:¬ s=⟨#[115,51]⟩) (h5:¬ s=⟨#[100,105,104,101,100,114,97,108]⟩) (h6:¬ s=⟨#[113,117,97,116,101,114,110,105,111,110]⟩) (hs:s.size=2) (b0:Zeb s 0=99) (b1:Zeb s 1=48+(d:Int)):ZX.f s=some (cyc d,true):=by have c2:=ZgV (n:=2) (by omega) (by omega);have c2:ZM.f 2=some (cyc 2):=c2;have cd:=ZgV (n:=d) d1 d8;rw[ZX.f_eq,c2,Option.bind_some,if_neg h1,if_neg h2,if_neg h3,if_neg h4,if_neg h5,if_neg h6,b0,b1,if_pos (by omega),if_pos (by omega),if_pos rfl,if_pos (by omega),if_pos (by omega),if_pos (by omega),if_pos (by omega),if_pos (by omega),wrB (by omega) (by omega),w64 (by omega) (by omega),show 48+(d:Int)-48=(d:Int)by omega,cd,Option.bind_some]
def nmL:List ByteArray:=[⟨#[99,49]⟩,⟨#[99,50]⟩,⟨#[99,51]⟩,⟨#[99,52]⟩,⟨#[99,53]⟩,⟨#[99,54]⟩,⟨#[99,55]⟩,⟨#[99,56]⟩,⟨#[107,108,101,105,110]⟩,⟨#[115,51]⟩,⟨#[99,50,99,52]⟩,⟨#[99,117,98,101]⟩,⟨#[100,105,104,101,100,114,97,108]⟩,⟨#[113,117,97,116,101,114,110,105,111,110]⟩]
theorem ZdD {i:Int} (i0:0<=i) (i1:i<14):∃G,ZX.f (Ty.rd .str nmL i)=some (G,true)/\Grp G:=by
 have c2:=ZgV (n:=2) (by omega) (by omega);have c2:ZM.f 2=some (cyc 2):=c2;have c4:=ZgV (n:=4) (by omega) (by omega);have c4:ZM.f 4=some (cyc 4):=c4;have t3:ZA.f 3 0=some (twd 3 0):=ZgX (n:=3) (by omega) (by omega) (by omega) (by omega);have t4:ZA.f 4 0=some (twd 4 0):=ZgX (n:=4) (by omega) (by omega) (by omega) (by omega);have t5:ZA.f 4 2=some (twd 4 2):=ZgX (n:=4) (by omega) (by omega) (by omega) (by omega);obtain⟨g1,g2,g3,g4,g5,g6⟩:=ZlO;have g2':=Zdp (ZiR 2 (by omega) (by omega));have g4':=Zdp (ZiR 4 (by omega) (by omega));have g22:=Zdp g1;have p1:=ZgW g2' g2';have p2:=ZgW g2' g22;have p3:=ZgW g2' g4';have cyc' : ∀d:Nat,1<=d->d<=8->Ty.rd .str nmL ((d:Int)-1)=⟨#[99,UInt8.ofNat (48+d)]⟩->∃G,ZX.f (Ty.rd .str nmL ((d:Int)-1))=some (G,true)/\Grp G:=λ d d1 d8 e=>by
  rw[e];refine⟨cyc d,?_,Zdp (ZiR d d8 d1)⟩;have hd:d=1\/d=2\/d=3\/d=4\/d=5\/d=6\/d=7\/d=8:=by omega
  rcases hd with rfl|rfl|rfl|rfl|rfl|rfl|rfl|rfl<;>exact ZnQ (by omega) (by omega) (by decide) (by decide) (by decide) (by decide) (by decide) (by decide) rfl rfl rfl
 have hi:i=0\/i=1\/i=2\/i=3\/i=4\/i=5\/i=6\/i=7\/i=8\/i=9\/i=10\/i=11\/i=12\/i=13:=by omega
 rcases hi with rfl|rfl|rfl|rfl|rfl|rfl|rfl|rfl|rfl|rfl|rfl|rfl|rfl|rfl
 ·exact cyc' 1 (by omega) (by omega) rfl
 ·exact cyc' 2 (by omega) (by omega) rfl
 ·exact cyc' 3 (by omega) (by omega) rfl
 ·exact cyc' 4 (by omega) (by omega) rfl
 ·exact cyc' 5 (by omega) (by omega) rfl
 ·exact cyc' 6 (by omega) (by omega) rfl
 ·exact cyc' 7 (by omega) (by omega) rfl
 ·exact cyc' 8 (by omega) (by omega) rfl
 ·refine⟨_,?_,g22⟩;show ZX.f ⟨#[107,108,101,105,110]⟩=_;rw[ZX.f_eq,c2,Option.bind_some,if_pos rfl,p1,Option.bind_some]
 ·refine⟨_,?_,Zdp g4⟩;show ZX.f ⟨#[115,51]⟩=_;rw[ZX.f_eq,c2,Option.bind_some,if_neg (by decide),if_neg (by decide),if_neg (by decide),if_pos rfl,t3,Option.bind_some]
 ·refine⟨_,?_,Zdp g3⟩;show ZX.f ⟨#[99,50,99,52]⟩=_;rw[ZX.f_eq,c2,Option.bind_some,if_neg (by decide),if_neg (by decide),if_pos rfl,c4,Option.bind_some,p3,Option.bind_some]
 ·refine⟨_,?_,Zdp g2⟩;show ZX.f ⟨#[99,117,98,101]⟩=_;rw[ZX.f_eq,c2,Option.bind_some,if_neg (by decide),if_pos rfl,p1,Option.bind_some,p2,Option.bind_some]
 ·refine⟨_,?_,Zdp g5⟩;show ZX.f ⟨#[100,105,104,101,100,114,97,108]⟩=_;rw[ZX.f_eq,c2,Option.bind_some,if_neg (by decide),if_neg (by decide),if_neg (by decide),if_neg (by decide),if_pos rfl,t4,Option.bind_some]
 ·refine⟨_,?_,Zdp g6⟩;show ZX.f ⟨#[113,117,97,116,101,114,110,105,111,110]⟩=_;rw[ZX.f_eq,c2,Option.bind_some,if_neg (by decide),if_neg (by decide),if_neg (by decide),if_neg (by decide),if_neg (by decide),if_pos rfl,t5,Option.bind_some]
theorem Draw_ {c:List Int} {i:Int} (h:Src c i) (hh:Int):∃G j h', Zbf.f c i hh=some (G,c,j,h')/\Src c j/\Grp G:=by
 obtain⟨x,j,h', e,s,x0,x1,_⟩:=Next_ h hh 14 (by omega);have x1:=x1 (by omega);obtain⟨G,hG,hgr⟩:=ZdD x0 x1;obtain⟨y,j2,h2,e2,s2,y0,y1,_⟩:=Next_ s h' 2 (by omega);have hN:Zba.f=some nmL:=Zba.f_eq;have hl:((nmL.length:Nat):Int)=14:=rfl
 by_cases q:y=0
 ·refine⟨G,j2,h2,?_,s2,hgr⟩;rw[Zbf.f_eq,hN,Option.bind_some,hl,e];dsimp only[Option.bind_some];rw[if_pos x0,if_pos x1,if_pos x0,if_pos x1,hG];dsimp only[Option.bind_some];rw[e2];dsimp only[Option.bind_some];rw[if_pos q]
 ·
  obtain⟨p,j3,h3,e3,s3,o,p0⟩:=ZhI s2 h2 (n:=G.length) hgr.n1 (by have:=hgr.n8;omega)
  have hr:=ZfK hgr o.ordr;refine⟨ren G p,j3,h3,?_,s3,Zmb hgr o.ordr p0⟩;rw[Zbf.f_eq,hN,Option.bind_some,hl,e];dsimp only[Option.bind_some];rw[if_pos x0,if_pos x1,if_pos x0,if_pos x1,hG];dsimp only[Option.bind_some];rw[e2];dsimp only[Option.bind_some];rw[if_neg q,Zal.f_eq,Option.bind_some,e3];dsimp only[Option.bind_some];rw[hr]
  rfl
def GoP (g:List (List Int)) (m:Int) (us:List Int):Prop:=∀x:Int,0<=x->x<us.length->∀y:Int,0<=y->y<us.length->T g x y<us.length->rd us (T g x y)=rd us x*rd us y%m
theorem ZnL {g:List (List Int)} (hg:Grp g) {m:Int} (m2:2<=m) (m12:m<=12) (k:Nat) {us:List Int} (hu:∀x∈us,1<=x/\x<m/\Int.gcd x m=1) (hl:us.length<=g.length) (out:List (Int×List Int)) :
  ZG.l0 k m us (us.length:Int) 0 out g=ite_ (GoP g m us) (ZG.l0 k m us (us.length:Int) (us.length:Int) out g) (some out):=by
 have n8:=hg.n8;have outer:=scan us.length (λ x=>ZG.l0 k m us (us.length:Int) x out g) (λ x=>∀y:Int,0<=y->y<us.length->T g x y<us.length->rd us (T g x y)=rd us x*rd us y%m) (some out) (λ x x0 x1 _=>by
  have rx:=hg.row x x0 (by omega);have inner:=scanI us.length (λ y=>ZG.l1 k m us (us.length:Int) x y out g) (λ y=>T g x y<us.length->rd us (T g x y)=rd us x*rd us y%m) (some out) (ZG.l0 k m us (us.length:Int) (x+1) out g) (λ y y0 y1 _=>by
   obtain⟨t0,t1⟩:=hg.ent x y x0 (by omega) y0 (by omega);obtain⟨a0,a1,_⟩:=hu _ (ZbU x0 x1);obtain⟨b0,b1,_⟩:=hu _ (ZbU y0 y1);obtain⟨p0,p1⟩:=Zc5 (a:=rd us x) (b:=rd us y) (m:=1000) (by omega) (by omega) (by omega) (by omega) (by omega);refine⟨λ h=>?_,λ h=>?_⟩
   ·
    by_cases ht:T g x y<us.length
    ·
     have h:=h ht;rw[ZG.l1_eq,w64 (x:=y+1) (by omega) (by omega),w64 (x:=rd us x*rd us y) (by omega) (by omega),Zcc p0]
     (with_reducible repeat (first|refine go_p ?_|refine go_n ?_|refine go_b ?_|dsimp only))
    ·
     rw[ZG.l1_eq,w64 (x:=y+1) (by omega) (by omega)]
     (with_reducible repeat (first|refine go_p ?_|refine go_n ?_|refine go_b ?_|dsimp only))
   ·
    have ht:T g x y<us.length:=by
     by_cases q:T g x y<us.length
     ·exact q
     ·exact absurd (λ k=>absurd k q) h
    have h:¬ rd us (T g x y)=rd us x*rd us y%m:=λ k=>h λ _=>k
    rw[ZG.l1_eq,w64 (x:=rd us x*rd us y) (by omega) (by omega),Zcc p0]
    (with_reducible repeat (first|refine go_p ?_|refine go_n ?_|refine go_b ?_|dsimp only))) (λ _=>by
     rw[ZG.l1_eq,w64 (x:=x+1) (by omega) (by omega)]
     (with_reducible repeat (first|refine go_p ?_|refine go_n ?_|refine go_b ?_|dsimp only)))
  refine⟨λ h=>?_,λ h=>?_⟩ <;> rw[ZG.l0_eq,if_pos (by omega)]
  ·exact inner.1 h
  ·exact inner.2 h)
 rcases outer with ⟨h1,h2⟩|⟨j,j0,j1,_,h1,_,h2⟩
 ·rw[Zb4 (show GoP g m us from h1),h2]
 ·rw[Zb9 (show ¬ GoP g m us from λ q=>h1 (q j j0 j1))];exact h2
theorem pow12 {a b:Nat} (h:a=b+1):(12:Nat) ^ a=12*12 ^ b:=by rw[h,Nat.pow_succ,Nat.mul_comm]
theorem ZnN {g:List (List Int)} (hg:Grp g) {m:Int} (m2:2<=m) (m12:m<=12):∀(k:Nat) (us:List Int) (out:List (Int×List Int)),(∀x∈us,1<=x/\x<m/\Int.gcd x m=1)->us.length<=g.length->g.length<us.length+k->out.length+12 ^ (g.length-us.length)<=1000000000 ->
  ∃O,ZG.f k g m us out=some (out++O)/\(∀p∈O,p.1=m/\Mdl g m p.2)/\O.length<=12 ^ (g.length-us.length)/\((∀x∈us,x=1)->O≠[]):=by
 have n8:=hg.n8;intro k
 induction k with
 | zero=>intro us out _ hl hk _;omega
 | succ k ih =>
  intro us out hu hl hk hb;have ht:=ZnL hg m2 m12 k hu hl out;rw[ZG.f_eq,ht]
  by_cases hG:GoP g m us
  rotate_left
  ·rw[Zb9 hG];refine⟨[],by rw[List.append_nil],by simp,Nat.zero_le _,λ h=>absurd (λ x x0 x1 y y0 y1 ht=>?_) hG⟩;obtain⟨t0,_⟩:=hg.ent x y x0 (by omega) y0 (by omega);rw[h _ (ZbU x0 x1),h _ (ZbU y0 y1),h _ (ZbU t0 ht),Int.mul_one,Int.emod_eq_of_lt (by omega) (by omega)]
  rw[Zb4 hG,ZG.l0_eq,if_neg (by omega)]
  by_cases hN:(us.length:Int)=(g.length:Int)
  ·rw[if_pos hN,Own_ us (by omega),Option.bind_some];have l1:([(m,us)]:List (Int×List Int)).length=1:=rfl;have hp1:1<=12 ^ (g.length-us.length):=Nat.one_le_pow _ _ (by omega);rw[l1,if_pos (by omega)];refine⟨[(m,us)],rfl,λ p hp=>?_,by rw[l1];exact hp1,λ _=>by simp⟩;rw[List.mem_singleton]at hp;subst hp;refine⟨rfl,m2,m12,by show us.length=_;omega,λ i i0 i1=>hu _ (ZbU i0 i1),λ i i0 i1 j j0 j1=>?_⟩;have i1:i<us.length:=i1;have j1:j<us.length:=j1;exact hG i i0 i1 j j0 j1 (by rw[hN];exact(hg.ent i j i0 (by omega) j0 (by omega)).2)
  rw[if_neg hN];have hp12:=pow12 (show g.length-us.length=(g.length-(us.length+1))+1 by omega);obtain⟨P,hP⟩:∃P,P=(12:Nat) ^ (g.length-(us.length+1)):=⟨_,rfl⟩
  rw[<-hP]at hp12;have loop:∀(n:Nat) (c:Int) (out:List (Int×List Int)),1<=c->c+n=m->out.length+n*P<=1000000000 ->
    ∃O,ZG.l2 k m us (us.length:Int) c out g=some (out++O)/\(∀p∈O,p.1=m/\Mdl g m p.2)/\O.length<=n*P/\(c=1->(∀x∈us,x=1)->O≠[]):=by
   intro n
   induction n with
   | zero =>
    intro c out c0 hcm _;exact⟨[],by rw[ZG.l2_eq,if_neg (by omega),List.append_nil],by simp,Nat.zero_le _,λ h=>by omega⟩
   | succ n ihn =>
    intro c out c0 hcm hb;rw[Nat.succ_mul]at hb;have hgcd:=Gcd_ (a:=c) (b:=m) (by omega) (by omega) (by omega) (by omega);have wc:wrapI (c+1)=c+1:=w64 (by omega) (by omega);have hO:=Own_ us (by omega);have l1:([c]:List Int).length=1:=rfl;rw[ZG.l2_eq,if_pos (by omega),hgcd,Option.bind_some,hO,wc]
    by_cases hc:((Int.gcd c m:Nat):Int)=1
    rotate_left
    ·obtain⟨O,o1,o2,o3,o4⟩:=ihn (c+1) out (by omega) (by omega) (by omega);refine⟨O,by rw[if_neg hc];exact o1,o2,by rw[Nat.succ_mul];omega,λ h=>absurd ?_ hc⟩;rw[h,Int.gcd_comm,Int.gcd_one_right];rfl
    rw[if_pos hc]
    by_cases hz:us.length=0/\¬ c=1
    ·obtain⟨O,o1,o2,o3,o4⟩:=ihn (c+1) out (by omega) (by omega) (by omega);exact⟨O,by rw[if_neg (by omega),if_neg hz.2];exact o1,o2,by rw[Nat.succ_mul];omega,λ h=>absurd h hz.2⟩
    have hu' : ∀x∈us++[c],1<=x/\x<m/\Int.gcd x m=1:=λ x hx=>by
     rcases List.mem_append.1 hx with h|h
     ·exact hu x h
     ·rw[List.mem_singleton]at h;subst h;exact⟨c0,by omega,by omega⟩
    have e1:(us++[c]).length=us.length+1:=by simp
    obtain⟨O,o1,o2,o3,o4⟩:=ih (us++[c]) out hu' (by omega) (by omega) (by rw[e1,<-hP];omega)
    rw[e1,<-hP]at o3;obtain⟨O', q1,q2,q3,q4⟩:=ihn (c+1) (out++O) (by omega) (by omega) (by rw[List.length_append];omega);refine⟨O++O', ?_,λ p hp=>?_,by rw[List.length_append,Nat.succ_mul];omega,λ h ha=>?_⟩
    ·
     rw[<-List.append_assoc,<-q1]
     by_cases hx:us.length=0
     ·
      have hc1:c=1:=Classical.byContradiction λ q=>hz ⟨hx,q⟩
      rw[if_neg (by omega),if_pos hc1];dsimp only[Option.bind_some];rw[l1,if_pos (by omega),o1]
      rfl
     ·
      rw[if_pos (by omega)];dsimp only[Option.bind_some];rw[l1,if_pos (by omega),o1]
      rfl
    ·
     rcases List.mem_append.1 hp with h|h
     ·exact o2 p h
     ·exact q2 p h
    ·
     have:=o4 λ x hx=>by
      rcases List.mem_append.1 hx with h' | h'
      ·exact ha x h'
      ·rw[List.mem_singleton]at h';omega
     simp[this]
  obtain⟨O,a1,a2,a3,a4⟩:=loop (m.toNat-1) 1 out (by omega) (by omega) (by have:(m.toNat-1)*P<=12*P:=Nat.mul_le_mul_right P (by omega);omega)
  refine⟨O,a1,a2,?_,λ h=>a4 rfl h⟩;rw[hp12];exact Nat.le_trans a3 (Nat.mul_le_mul_right P (by omega))
theorem ZoG {g:List (List Int)} (hg:Grp g) {m:Int} (m2:2<=m) (m12:m<=12):∃O,Zbp.f g m=some O/\(∀p∈O,p.1=m/\Mdl g m p.2)/\0<O.length/\O.length<=429981696:=by have n8:=hg.n8;have hp:(12:Nat) ^ g.length<=429981696:=Nat.le_trans (Nat.pow_le_pow_right (by omega) n8) (by decide);obtain⟨O,o1,o2,o3,o4⟩:=ZnN hg m2 m12 fuel [] [] (by simp) (by simp) (by have:=Zn6;simp;omega) (by simp;omega);simp only[List.nil_append,List.length_nil,Nat.sub_zero]at o1 o3;refine⟨O,by rw[Zbp.f_eq,o1];rfl,o2,List.length_pos_iff.2 (o4 (by simp)),by omega⟩
theorem ZoM {c:List Int} {i:Int} (h:Src c i) (hh:Int):∃m j h', Zbd.f c i hh=some (m,c,j,h')/\Src c j/\2<=m/\m<=12:=by obtain⟨x,j,h', e,s,hx⟩:=Pick_ h hh [2,2,3,3,4,4,5,6,8,8,9,12,7,10,11] (by simp) (by simp);refine⟨x,j,h', by rw[Zbd.f_eq,e];rfl,s,?_⟩;simp only[List.mem_cons,List.not_mem_nil,or_false]at hx;omega
theorem Zot {O:List (Int×List Int)} {x:Int} (x0:0<=x) (x1:x<O.length):Ty.rd (.pr (.int .i64) (.sl 2 (.int .i64))) O x∈O:=by
 obtain⟨n,rfl⟩:=Int.eq_ofNat_of_zero_le x0;have hn:n<O.length:=by omega
 have:Ty.rd (.pr (.int .i64) (.sl 2 (.int .i64))) O (n:Int)=O[n]:=by simp[Ty.rd,List.getD_eq_getElem?_getD,List.getElem?_eq_getElem hn]
 rw[this];exact List.getElem_mem hn
theorem ZnK {c:List Int} {i:Int} (h:Src c i) (hh:Int) {g:List (List Int)} (hg:Grp g) {m:Int} (m2:2<=m) (m12:m<=12):∃u j h', Za3.f c i hh g m=some (m,u,c,j,h')/\Src c j/\Mdl g m u:=by obtain⟨O,o1,o2,o3,o4⟩:=ZoG hg m2 m12;obtain⟨x,j,h', e,s,x0,x1,_⟩:=Next_ h hh (O.length:Int) (by omega);have x1:=x1 (by omega);have hm:=o2 _ (Zot x0 x1);refine⟨(Ty.rd (.pr (.int .i64) (.sl 2 (.int .i64))) O x).2,j,h', ?_,s,hm.2⟩;rw[Za3.f_eq,o1,Option.bind_some,e];dsimp only[Option.bind_some];rw[if_pos x0,if_pos x1,if_pos x0,if_pos x1,hm.1]
def SmT (g:List (List Int)):Prop:=g.length<=9/\∀r∈g,r.length<=9
theorem SmT.max {g:List (List Int)} (h:SmT g):g.length<=maxLen/\∀r∈g,r.length<=maxLen:=⟨ZfZ (by have:=h.1;omega),λ r hr=>ZfZ (by have:=h.2 r hr;omega)⟩
theorem Zml {g:List (List Int)} (hg:Grp g):SmT g:=⟨by have:=hg.n8;omega,λ r hr=>by have:=ZfV hg r hr;omega⟩
theorem Zmm {g:List (List Int)} (hg:SmT g) {r:List Int} (hr:r.length<=9) (k:Nat):SmT (g.set k r):=by
 refine⟨by rw[List.length_set];exact hg.1,λ s hs=>?_⟩
 rcases List.mem_or_eq_of_mem_set hs with h|rfl
 ·exact hg.2 s h
 ·exact hr
theorem Bad_ {c:List Int} {i:Int} (h:Src c i) (hh:Int) {g:List (List Int)} (hg:Grp g):∃g' j h', Zbo.f c i hh g=some (g', c,j,h')/\Src c j/\SmT g':=by
 have n8:=hg.n8;have n1:=hg.n1
 have hsm:=Zml hg;have hc:=Copy_ g (by omega) (λ r hr=>by have:=ZfV hg r hr;omega);obtain⟨x,j,h', e,s,x0,x1,_⟩:=Next_ h hh 50 (by omega);obtain⟨y,j2,h2,e2,s2,y0,y1,_⟩:=Next_ s h' (g.length:Int) (by omega);have y1:=y1 (by omega);have ry:=hg.row y y0 y1;rw[Zbo.f_eq,hc,Option.bind_some,e];dsimp only[Option.bind_some]
 by_cases q0:x=0
 ·exact⟨[],j,h', by rw[if_pos q0],s,by simp[SmT]⟩
 by_cases q1:x=1
 ·obtain⟨z,j3,h3,e3,s3,z0,z1,_⟩:=Next_ s2 h2 (g.length:Int) (by omega);have z1:=z1 (by omega);obtain⟨v,j4,h4,e4,s4,_⟩:=Pick_ s3 h3 [0,1,-1,(g.length:Int)] (by simp) (by simp);refine⟨g.set y.toNat ((row g y).set z.toNat v),j4,h4,?_,s4,Zmm hsm (by rw[List.length_set];omega) _⟩;rw[if_neg q0,if_pos q1,Zal.f_eq,Option.bind_some,e2];dsimp only[Option.bind_some];rw[if_pos y0,if_pos y1,if_pos y0,if_pos y1,e3];dsimp only[Option.bind_some];rw[e4];dsimp only[Option.bind_some];rw[if_pos z0,if_pos (by omega),if_pos z0,if_pos (by omega)]
 by_cases q2:x=2
 ·
  have r0:=hg.row 0 (by omega) (by omega);have l1:([row g 0]:List (List Int)).length=1:=rfl;refine⟨g++[row g 0],j,h', ?_,s,⟨by rw[List.length_append,l1];omega,λ r hr=>?_⟩⟩
  ·rw[if_neg q0,if_neg q1,if_pos q2,if_pos (by omega),if_pos (by omega),Own_ _ (by omega)];dsimp only[Option.bind_some];rw[l1,if_pos (by omega)]
  ·
   rcases List.mem_append.1 hr with k|k
   ·exact hsm.2 r k
   ·rw[List.mem_singleton]at k;subst k;omega
 by_cases q3:x=3
 ·
  refine⟨g.set y.toNat ((row g y).drop 1),j2,h2,?_,s2,Zmm hsm (by rw[List.length_drop];omega) _⟩
  rw[if_neg q0,if_neg q1,if_neg q2,if_pos q3,Zal.f_eq,Option.bind_some,e2];dsimp only[Option.bind_some];rw[if_pos y0,if_pos y1,if_pos y0,if_pos y1,if_pos (by omega),if_pos y0,if_pos y1,if_pos y0,if_pos y1]
  rfl
 ·exact⟨g,j,h', by rw[if_neg q0,if_neg q1,if_neg q2,if_neg q3],s,hsm⟩
theorem ZoJ {c:List Int} {i:Int} (h:Src c i) (hh:Int) (m:Int) {u:List Int} (u1:1<=u.length) (u8:u.length<=8):∃m' u' j h', Zbq.f c i hh m u=some (m', u', c,j,h')/\Src c j/\u'.length<=9:=by
 obtain⟨x,j,h', e,s,x0,x1,_⟩:=Next_ h hh 40 (by omega);rw[Zbq.f_eq,e];dsimp only[Option.bind_some]
 by_cases q0:x=0
 ·
  obtain⟨v,j4,h4,e4,s4,_⟩:=Pick_ s h' [1,13,wrapI (m+1),0] (by simp) (by simp);refine⟨v,u,j4,h4,?_,s4,by omega⟩;rw[if_pos q0,e4]
  rfl
 by_cases q1:x=1
 ·obtain⟨y,j2,h2,e2,s2,y0,y1,_⟩:=Next_ s h' (u.length:Int) (by omega);have y1:=y1 (by omega);obtain⟨v,j4,h4,e4,s4,_⟩:=Pick_ s2 h2 [0,-1,2,3,m] (by simp) (by simp);refine⟨m,u.set y.toNat v,j4,h4,?_,s4,by rw[List.length_set];omega⟩;rw[if_neg q0,if_pos q1,Own_ u (by omega)];dsimp only[Option.bind_some];rw[e2];dsimp only[Option.bind_some];rw[e4];dsimp only[Option.bind_some];rw[if_pos y0,if_pos y1,if_pos y0,if_pos y1]
 by_cases q2:x=2
 ·have l1:([1]:List Int).length=1:=rfl;refine⟨m,u++[1],j,h', ?_,s,by rw[List.length_append,l1];omega⟩;rw[if_neg q0,if_neg q1,if_pos q2,Own_ u (by omega)];dsimp only[Option.bind_some];rw[l1,if_pos (by omega)]
 ·exact⟨m,u,j,h', by rw[if_neg q0,if_neg q1,if_neg q2],s,by omega⟩
theorem Zo6 {g:List (List Int)} (hg:Grp g) {m:Int} {u:List Int} (hm:Mdl g m u):1<=u.length/\u.length<=8:=by
 have:=hg.n8;have:=hg.n1;have:=hm.len
 omega
structure CodeL (c:List Int):Prop where
 ent:∀x∈c,0<=x/\x<=255
 len:c.length<=4096
end Go.Proofs.YtdamfbighdkcbaaGreat.V
set_option maxRecDepth 100000
namespace Go.Proofs.YtdamfbighdkcbaaGreat.P
open Go Go.RowKit Go.Proofs.YtdamfbighdkcbaaGreat.D
end Go.Proofs.YtdamfbighdkcbaaGreat.P
set_option maxRecDepth 20000
namespace Go.Proofs.YtdamfbighdkcbaaGreat.V
open Go Go.RowKit Go.Proofs.YtdamfbighdkcbaaGreat.D Go.Proofs.YtdamfbighdkcbaaGreat.P
def smL:List ByteArray:=[⟨#[99,49]⟩,⟨#[99,50]⟩,⟨#[99,50]⟩,⟨#[99,51]⟩,⟨#[99,51]⟩,⟨#[99,52]⟩,⟨#[107,108,101,105,110]⟩]
theorem Zng {i:Int} (i0:0<=i) (i1:i<7):∃G,ZX.f (Ty.rd .str smL i)=some (G,true)/\Grp G:=by
 have hi:i=0\/i=1\/i=2\/i=3\/i=4\/i=5\/i=6:=by omega
 rcases hi with rfl|rfl|rfl|rfl|rfl|rfl|rfl
 ·exact ZdD (i:=0) (by omega) (by omega)
 ·exact ZdD (i:=1) (by omega) (by omega)
 ·exact ZdD (i:=1) (by omega) (by omega)
 ·exact ZdD (i:=2) (by omega) (by omega)
 ·exact ZdD (i:=2) (by omega) (by omega)
 ·exact ZdD (i:=3) (by omega) (by omega)
 ·exact ZdD (i:=8) (by omega) (by omega)
theorem ZoQ {c:List Int} {i:Int} (h:Src c i) (hh:Int):∃G j h', Zbb.f c i hh=some (G,c,j,h')/\Src c j/\Grp G:=by
 obtain⟨x,j,h', e,s,x0,x1,_⟩:=Next_ h hh 7 (by omega);have x1:=x1 (by omega);obtain⟨G,hG,hgr⟩:=Zng x0 x1;obtain⟨y,j2,h2,e2,s2,y0,y1,_⟩:=Next_ s h' 2 (by omega);have hl:((smL.length:Nat):Int)=7:=rfl;have hf:=Zbb.f_eq c i hh;rw[show([(⟨#[99,49]⟩:ByteArray),(⟨#[99,50]⟩:ByteArray),(⟨#[99,50]⟩:ByteArray),(⟨#[99,51]⟩:ByteArray),(⟨#[99,51]⟩:ByteArray),(⟨#[99,52]⟩:ByteArray),(⟨#[107,108,101,105,110]⟩:ByteArray)]:List ByteArray)=smL from rfl,hl]at hf
 by_cases q:y=0
 ·refine⟨G,j2,h2,?_,s2,hgr⟩;rw[hf,e];dsimp only[Option.bind_some];rw[if_pos x0,if_pos x1,if_pos x0,if_pos x1,hG];dsimp only[Option.bind_some];rw[e2];dsimp only[Option.bind_some];rw[if_pos q]
 ·
  obtain⟨p,j3,h3,e3,s3,o,p0⟩:=ZhI s2 h2 (n:=G.length) hgr.n1 (by have:=hgr.n8;omega)
  have hr:=ZfK hgr o.ordr;refine⟨ren G p,j3,h3,?_,s3,Zmb hgr o.ordr p0⟩;rw[hf,e];dsimp only[Option.bind_some];rw[if_pos x0,if_pos x1,if_pos x0,if_pos x1,hG];dsimp only[Option.bind_some];rw[e2];dsimp only[Option.bind_some];rw[if_neg q,Zal.f_eq,Option.bind_some,e3];dsimp only[Option.bind_some];rw[hr]
  rfl
theorem ZoR {c:List Int} {i:Int} (h:Src c i) (hh:Int):∃G j h', Zbc.f c i hh=some (G,c,j,h')/\Src c j/\SmT G:=by
 obtain⟨G,j,h', e,s,hg⟩:=Draw_ h hh;obtain⟨G', j2,h2,e2,s2,hg2⟩:=Bad_ s h' hg;refine⟨G', j2,h2,?_,s2,hg2⟩;rw[Zbc.f_eq,e];dsimp only[Option.bind_some];rw[e2]
 rfl
theorem ZmA {c:List Int} {i:Int} (h:Src c i) (hh:Int) (g:List (List Int)):∃m u j h', ZaY.f c i hh g=some (m,u,c,j,h')/\Src c j/\u.length<=9:=by
 by_cases hg:Grp g
 rotate_left
 ·exact⟨3,[1],i,hh,by rw[ZaY.f_eq,Is_ g,B_neg hg];rfl,h,by simp⟩
 obtain⟨m,j2,h2,e2,s2,m2,m12⟩:=ZoM h hh;obtain⟨u,j3,h3,e3,s3,hm⟩:=ZnK s2 h2 hg m2 m12;obtain⟨u1,u8⟩:=Zo6 hg hm;obtain⟨m', u', j4,h4,e4,s4,hu'⟩:=ZoJ s3 h3 m u1 u8;refine⟨m', u', j4,h4,?_,s4,hu'⟩;rw[ZaY.f_eq,Is_ g,B_pos hg,Option.bind_some,if_pos rfl,e2];dsimp only[Option.bind_some];rw[e3];dsimp only[Option.bind_some];rw[e4]
 rfl
def fwL:List ByteArray:=[⟨#[99,53]⟩,⟨#[99,54]⟩,⟨#[115,51]⟩,⟨#[99,54]⟩]
theorem ZmT {i:Int} (i0:0<=i) (i1:i<4):∃G,ZX.f (Ty.rd .str fwL i)=some (G,true)/\Grp G:=by
 have hi:i=0\/i=1\/i=2\/i=3:=by omega
 rcases hi with rfl|rfl|rfl|rfl
 ·exact ZdD (i:=4) (by omega) (by omega)
 ·exact ZdD (i:=5) (by omega) (by omega)
 ·exact ZdD (i:=9) (by omega) (by omega)
 ·exact ZdD (i:=5) (by omega) (by omega)
theorem ZnJ {c:List Int} {i:Int} (h:Src c i) (hh:Int):∃g m u n j h', Zbi.f c i hh=some (g,m,u,n,c,j,h')/\Src c j/\SmT g/\u.length<=9:=by
 obtain⟨G,j1,h1,e1,s1,hG⟩:=ZoQ h hh;obtain⟨x,j2,h2,e2,s2,x0,x1,_⟩:=Next_ s1 h1 6 (by omega);have rest:∀(g:List (List Int)) (j hh:Int),Src c j->SmT g->∃m u n j' h', ((ZaY.f c j hh g).bind λ t29=>(Za0.f t29.2.2.1 t29.2.2.2.1 t29.2.2.2.2 3).bind λ t32=>(Zam.f t32.2.1 t32.2.2.1 t32.2.2.2 ([0,1,1,2,2,2,3,t32.1]:List Int)).bind λ t34=>some (g,t29.1,t29.2.1,t34.1,t34.2.1,t34.2.2.1,t34.2.2.2))=some (g,m,u,n,c,j', h')/\Src c j' /\ SmT g/\u.length<=9:=λ g j hh s hg=>by
  obtain⟨m,u,j3,h3,e3,s3,hu⟩:=ZmA s hh g;obtain⟨y,j4,h4,e4,s4⟩:=Near_ s3 h3 3 (by omega) (by omega);have l8:([0,1,1,2,2,2,3,y]:List Int).length=8:=rfl;obtain⟨n,j5,h5,e5,s5,_⟩:=Pick_ s4 h4 [0,1,1,2,2,2,3,y] (by omega) (by omega);refine⟨m,u,n,j5,h5,?_,s5,hg,hu⟩;rw[e3];dsimp only[Option.bind_some];rw[e4];dsimp only[Option.bind_some];rw[e5]
  rfl
 have lf:((fwL.length:Nat):Int)=4:=rfl;have hf:=Zbi.f_eq c i hh;rw[show([(⟨#[99,53]⟩:ByteArray),(⟨#[99,54]⟩:ByteArray),(⟨#[115,51]⟩:ByteArray),(⟨#[99,54]⟩:ByteArray)]:List ByteArray)=fwL from rfl,lf,e1]at hf;dsimp only[Option.bind_some]at hf;rw[e2]at hf;dsimp only[Option.bind_some]at hf
 by_cases q0:x=0
 ·obtain⟨G', j3,h3,e3,s3,hG'⟩:=ZoR s2 h2;obtain⟨m,u,n,j', h', k1,k2,k3,k4⟩:=rest G' j3 h3 s3 hG';refine⟨G', m,u,n,j', h', ?_,k2,k3,k4⟩;rw[hf,if_pos q0,e3];dsimp only[Option.bind_some];exact k1
 rw[if_neg q0]at hf;have named:∀{R:Option (List (List Int)×Int×List Int×Int×List Int×Int×Int)},R=((ZQ.f c j2 h2 4).bind λ t20=>if 0<=t20.1 then(if t20.1<4 then(if 0<=t20.1 then(if t20.1<4 then((ZX.f (Ty.rd .str fwL t20.1)).bind λ t23=>(ZaY.f t20.2.1 t20.2.2.1 t20.2.2.2 t23.1).bind λ t29=>(Za0.f t29.2.2.1 t29.2.2.2.1 t29.2.2.2.2 3).bind λ t32=>(Zam.f t32.2.1 t32.2.2.1 t32.2.2.2 ([0,1,1,2,2,2,3,t32.1]:List Int)).bind λ t34=>some (t23.1,t29.1,t29.2.1,t34.1,t34.2.1,t34.2.2.1,t34.2.2.2))else none)else none)else none)else none)->∃g m u n j h', R=some (g,m,u,n,c,j,h')/\Src c j/\SmT g/\u.length<=9:=λ hR=>by obtain⟨y,j3,h3,e3,s3,y0,y1,_⟩:=Next_ s2 h2 4 (by omega);have y1:=y1 (by omega);obtain⟨G', eG,hG'⟩:=ZmT y0 y1;obtain⟨m,u,n,j', h', k1,k2,k3,k4⟩:=rest G' j3 h3 s3 (Zml hG');refine⟨G', m,u,n,j', h', ?_,k2,k3,k4⟩;rw[hR,e3];dsimp only[Option.bind_some];rw[if_pos y0,if_pos y1,if_pos y0,if_pos y1,eG];dsimp only[Option.bind_some];exact k1
 by_cases q1:x=1
 ·rw[if_pos q1,if_pos q1]at hf;exact named hf
 rw[if_neg q1]at hf
 by_cases q2:x=2
 ·rw[if_pos q2]at hf;exact named hf
 ·rw[if_neg q2]at hf;obtain⟨m,u,n,j', h', k1,k2,k3,k4⟩:=rest G j2 h2 s2 (Zml hG);exact⟨G,m,u,n,j', h', hf.trans k1,k2,k3,k4⟩
theorem ZeW {c:List Int} (h:CodeL c):∃g m u n,Z9.f c=some (g,m,u,n)/\SmT g/\u.length<=9:=by
 obtain⟨h0,e0,s0⟩:=From_ h.ent h.len;obtain⟨g,m,u,n,j,h', e1,_,k1,k2⟩:=ZnJ s0 h0;refine⟨g,m,u,n,?_,k1,k2⟩;rw[Z9.f_eq,Za4.f_eq,e0];dsimp only[Option.bind_some];rw[e1]
 rfl
end Go.Proofs.YtdamfbighdkcbaaGreat.V
namespace Go.Proofs.YtdamfbighdkcbaaGreat.Pure
open Go.RowKit Go.Proofs.YtdamfbighdkcbaaGreat.D Go.Proofs.YtdamfbighdkcbaaGreat.P Go.Proofs.YtdamfbighdkcbaaGreat.V
theorem ZjX (xs:List Int) (hl:xs.length<=1048576):Zan.f xs xs=some true:=by
 have main:=up xs.length (λ k=>Zan.l0 xs xs (k:Int)) (λ k hk=>by rw[Zan.l0_eq,if_pos (by omega),if_pos (by omega),if_pos (by omega),if_pos (by omega),if_pos (by omega),if_pos rfl,wn (j:=k) (by omega)])
 have main:Zan.l0 xs xs 0=_:=main;rw[Zan.f_eq,if_pos rfl,main,Zan.l0_eq,if_neg (by omega)]
theorem Zge (l:List Int):prI l=prodN ((List.range l.length).map λ i:Nat=>(rd l (i:Int)).toNat):=by
 show prodN (l.map Int.toNat)=_
 congr 1
 refine List.ext_getElem (by simp) λ i h1 h2=>?_
 rw[List.length_map]at h1;simp only[List.getElem_map,List.getElem_range];rw[V.rd_get h1]
theorem Zir (a b:List Nat):prodN (a++b)=prodN a*prodN b:=by
 induction a with
 | nil=>show _=1*_;rw[Nat.one_mul];rfl
 | cons x a ih=>show x*prodN (a++b)=x*prodN a*prodN b;rw[ih,Nat.mul_assoc]
theorem Zl6 {L:List Int} (hl:L.length<=1000) (h0:∀x∈L,0<=x):Zau.f L=some (wrapI ((prI L:Nat):Int)):=by
 have loop:=up L.length (λ i=>Zau.l0 L (wrapI ((prI (L.take i):Nat):Int)) (i:Int)) (λ i hi=>by
  have ent:=h0 _ (ZbU (i:=(i:Int)) (xs:=L) (by omega) (by omega));have e:((prI (L.take (i+1)):Nat):Int)=((prI (L.take i):Nat):Int)*rd L (i:Int):=by rw[List.take_add_one,List.getElem?_eq_getElem hi,<-rd_get hi];show((prodN ((L.take i++[rd L (i:Int)]).map Int.toNat):Nat):Int)=_;rw[List.map_append,Zir];show((prI (L.take i)*((rd L (i:Int)).toNat*1):Nat):Int)=_;rw[Nat.mul_one,Int.natCast_mul,Int.toNat_of_nonneg (by omega)]
  rw[Zau.l0_eq,wn (j:=i) (by omega),ZfF,<-e]
  ((with_reducible repeat (first|refine go_p ?_|refine go_n ?_|refine go_b ?_|dsimp only));first|done|(with_reducible rfl)|simp (disch:=omega) only[w64]))
 have w1:wrapI ((prI (L.take 0):Nat):Int)=1:=w64 (by show(-9223372036854775808:Int)<=1;omega) (by show(1:Int)<9223372036854775808;omega)
 rw[w1,List.take_length]at loop;have loop:Zau.l0 L 1 0=_:=loop;rw[Zau.f_eq,loop,Zau.l0_eq]
 ((with_reducible repeat (first|refine go_p ?_|refine go_n ?_|refine go_b ?_|dsimp only));first|done|(with_reducible rfl)|simp (disch:=omega) only[w64])
theorem ZkT {m:Int} (m2:2<=m) (m12:m<=12) {W:Nat} {z b:List (List Int)} {Z Bs:Vc->Prop} (hz:Lead m W z Z) (hb:Lead m W b Bs) (hBZ:∀x,Bs x->Z x):∀i:Nat,i<W->1<=rd (Zby m z W) (i:Int)/\rd (Zby m z W) (i:Int)<=12/\1<=rd (Zby m b W) (i:Int)/\rd (Zby m b W) (i:Int)<=12/\rd (Zby m b W) (i:Int)∣rd (Zby m z W) (i:Int)/\rd (Zby m z W) (i:Int)∣m:=λ i hi=>by
 rw[ZfA hi,ZfA hi];obtain⟨d0,d1,q,hq⟩:=dv_bd (by omega) hz.tab hi;obtain⟨e0,e1,r,hr'⟩:=dv_bd (by omega) hb.tab hi;have hd:dv m z i∣dv m b i:=by
  by_cases h:row b (i:Int)=[]
  ·rw[show dv m b i=m from if_pos h];exact⟨q,hq⟩
  ·rw[show dv m b i=rd (row b (i:Int)) (i:Int)from if_neg h];have hP:=hb.tab.prow hi h;exact hz.lead _ (hBZ _ (hb.own i hi h)) i hi λ k hk=>by rw[show V (row b (i:Int)) k=0 from hP.zero k hk];exact Int.dvd_zero m
 have pos:∀d q:Int,0<d->m=d*q->1<=q/\q<=12:=λ d q h0 h=>by
  have q1:0<q:=by
   rcases Int.lt_or_le 0 q with w|w
   ·exact w
   ·have:=Int.mul_nonneg (show 0<=d by omega) (show 0 <= -q by omega);rw[Int.mul_neg]at this;omega
  have:=Int.le_of_dvd (show 0<m by omega) (show q∣m from⟨d,by rw[h,Int.mul_comm]⟩);omega
 have dq:m / dv m z i=q:=by have:=Int.mul_ediv_cancel_left q (show dv m z i≠0 by omega);rwa[<-hq]at this
 have dr:m / dv m b i=r:=by have:=Int.mul_ediv_cancel_left r (show dv m b i≠0 by omega);rwa[<-hr']at this
 rw[dq,dr];obtain⟨p1,p2⟩:=pos _ _ d0 hq;obtain⟨p3,p4⟩:=pos _ _ e0 hr';refine⟨p1,p2,p3,p4,?_,⟨dv m z i,by rw[Int.mul_comm];exact hq⟩⟩;obtain⟨s,hs⟩:=hd;refine⟨s,Int.eq_of_mul_eq_mul_left (show dv m z i≠0 by omega) ?_⟩;rw[Int.mul_comm r s,<-Int.mul_assoc,<-hs];exact hq.symm.trans hr'
theorem Zjp {g:List (List Int)} {m:Int} {u a b L:List Int} {n:Int} (n0:0<=n) (al:a.length<=1000) (bl:b.length=a.length) (m2:2<=m) (m12:m<=12) (hg1:g.length<=1000)
  (hab:∀i:Nat,i<a.length->1<=rd a (i:Int)/\rd a (i:Int)<=12/\1<=rd b (i:Int)/\rd b (i:Int)<=12/\rd b (i:Int)∣rd a (i:Int)/\rd a (i:Int)∣m)
  (hL:Chn m L) (Ll:L.length<=1000) (hp:prI L*prI b=prI a) (ho:0<n->∀x∈L,x∣(g.length:Int)) :
  ZO.l0 n (wrapI ((prI L:Nat):Int)) 1 0 g m u a b L=some true:=by
 have first:=up a.length (λ i=>ZO.l0 n (wrapI ((prI L:Nat):Int)) (wrapI ((prodN ((List.range i).map λ j:Nat=>(rd a (j:Int) / rd b (j:Int)).toNat):Nat):Int)) (i:Int) g m u a b L) (λ i hi=>by
  obtain⟨a1,a2,b1,b2,d1,d2⟩:=hab i hi;have t1:Int.tmod (rd a (i:Int)) (rd b (i:Int))=0:=Int.tmod_eq_zero_of_dvd d1;have t2:Int.tmod m (rd a (i:Int))=0:=Int.tmod_eq_zero_of_dvd d2;have q0:0<=rd a (i:Int) / rd b (i:Int):=Int.ediv_nonneg (by omega) (by omega);have q1:rd a (i:Int) / rd b (i:Int)<=rd a (i:Int):=Int.ediv_le_self _ (by omega);have t3:wrapI (Int.tdiv (rd a (i:Int)) (rd b (i:Int)))=rd a (i:Int) / rd b (i:Int):=by rw[Zdy (by omega)];exact w64 (by omega) (by omega)
  have e:((prodN ((List.range (i+1)).map λ j:Nat=>(rd a (j:Int) / rd b (j:Int)).toNat):Nat):Int)=((prodN ((List.range i).map λ j:Nat=>(rd a (j:Int) / rd b (j:Int)).toNat):Nat):Int)*(rd a (i:Int) / rd b (i:Int)):=by rw[List.range_succ,List.map_append,Zir];show((_*((rd a (i:Int) / rd b (i:Int)).toNat*1):Nat):Int)=_;rw[Nat.mul_one,Int.natCast_mul,Int.toNat_of_nonneg q0]
  rw[ZO.l0_eq,wn (j:=i) (by omega),t3,ZfF,<-e]
  ((with_reducible repeat (first|refine go_p ?_|refine go_n ?_|refine go_b ?_|dsimp only));first|done|(with_reducible rfl)|simp (disch:=omega) only[w64]))
 have w1:wrapI ((prodN ((List.range 0).map λ j:Nat=>(rd a (j:Int) / rd b (j:Int)).toNat):Nat):Int)=1:=w64 (by show(-9223372036854775808:Int)<=1;omega) (by show(1:Int)<9223372036854775808;omega)
 rw[w1]at first
 have first:ZO.l0 n (wrapI ((prI L:Nat):Int)) 1 0 g m u a b L=_:=first
 have hq:prodN ((List.range a.length).map λ j:Nat=>(rd a (j:Int) / rd b (j:Int)).toNat)=prI L:=by
  have pb:0<prI b:=by rw[Zge];refine(Zhr (F:=λ i:Nat=>(rd b (i:Int)).toNat) (F':=λ i:Nat=>(rd b (i:Int)).toNat) _ λ i hi=>⟨Nat.le_refl _,?_⟩).2.1;have:=hab i (by have:=List.mem_range.1 hi;omega);omega
  refine Nat.eq_of_mul_eq_mul_right pb ?_;rw[hp,Zge b,bl,Zge a,Zdf];refine Zd6 _ λ i hi=>?_
  obtain⟨a1,a2,b1,b2,⟨q,hq⟩,_⟩:=hab i (List.mem_range.1 hi);have:rd a (i:Int) / rd b (i:Int)=q:=by rw[hq];exact Int.mul_ediv_cancel_left _ (by omega)
  rw[this];have q0:0<=q:=by
   rcases Int.lt_or_le q 0 with w|w
   ·have:=Int.mul_pos (show 0<rd b (i:Int)by omega) (show 0 < -q by omega);rw[Int.mul_neg]at this;omega
   ·exact w
  rw[hq,Int.toNat_mul (by omega) q0,Nat.mul_comm]
 rw[hq]at first
 have second:=up L.length (λ i=>ZO.l1 n (wrapI ((prI L:Nat):Int)) (wrapI ((prI L:Nat):Int)) (i:Int) g m u L) (λ i hi=>by
  obtain⟨x2,xm⟩:=hL.ent _ (ZbU (i:=(i:Int)) (xs:=L) (by omega) (by omega));have t1:Int.tmod m (rd L (i:Int))=0:=Int.tmod_eq_zero_of_dvd xm;have step:(if n>0 then(if 0<=(i:Int)then(if(i:Int)<(L.length:Int)then(if 0<=(i:Int)then(if(i:Int)<(L.length:Int)then(if(rd L (i:Int))=0 then none else(if(((g.length:Int):Int).tmod (rd L (i:Int)))=0 then(ZO.l1 n (wrapI ((prI L:Nat):Int)) (wrapI ((prI L:Nat):Int)) ((i+1:Nat):Int) g m u L)else(some false)))else none)else none)else none)else none)else(ZO.l1 n (wrapI ((prI L:Nat):Int)) (wrapI ((prI L:Nat):Int)) ((i+1:Nat):Int) g m u L))=ZO.l1 n (wrapI ((prI L:Nat):Int)) (wrapI ((prI L:Nat):Int)) ((i+1:Nat):Int) g m u L:=by
   by_cases np:n>0
   ·have t3:Int.tmod (g.length:Int) (rd L (i:Int))=0:=Int.tmod_eq_zero_of_dvd (ho np _ (ZbU (i:=(i:Int)) (xs:=L) (by omega) (by omega)));rw[if_pos np,if_pos (by omega),if_pos (by omega),if_pos (by omega),if_pos (by omega),if_neg (by omega),if_pos t3]
   ·rw[if_neg np]
  rw[ZO.l1_eq,wn (j:=i) (by omega),step]
  by_cases i0:(i:Int)>0
  ·
   have w:wrapI ((i:Int)-1)=((i-1:Nat):Int):=by rw[w64 (by omega) (by omega)];omega
   have d:rd L ((i-1:Nat):Int)∣rd L (i:Int):=by rw[V.rd_get (by omega),V.rd_get hi];exact(List.pairwise_iff_getElem.1 hL.dvd) (i-1) i (by omega) hi (by omega)
   obtain⟨y2,_⟩:=hL.ent _ (ZbU (i:=((i-1:Nat):Int)) (xs:=L) (by omega) (by omega));have t2:Int.tmod (rd L (i:Int)) (rd L ((i-1:Nat):Int))=0:=Int.tmod_eq_zero_of_dvd d;rw[w]
   ((with_reducible repeat (first|refine go_p ?_|refine go_n ?_|refine go_b ?_|dsimp only));first|done|(with_reducible rfl)|simp (disch:=omega) only[w64])
  ·((with_reducible repeat (first|refine go_p ?_|refine go_n ?_|refine go_b ?_|dsimp only));first|done|(with_reducible rfl)|simp (disch:=omega) only[w64]))
 have second:ZO.l1 n (wrapI ((prI L:Nat):Int)) (wrapI ((prI L:Nat):Int)) 0 g m u L=_:=second;rw[first,ZO.l0_eq,if_neg (by omega),second,ZO.l1_eq,if_neg (by omega),decide_eq_true rfl]
theorem FnSteps_pure:∀(c:List Int),c.length<=maxLen->(∀x∈c,(Lit.int .u8 x).wf=true)->ZO.f c=some true:=by
 intro c hl hx;rw[ZO.f_eq,ZbC.f_eq];dsimp only[Option.bind_some]
 by_cases hb:(c.length:Int)>4096
 ·rw[decide_eq_true hb,if_pos rfl]
 rw[decide_eq_false hb,if_neg (by decide)];have h:CodeL c:=⟨λ x hx'=>by have:=hx x hx';simp[Lit.wf,IntKind.bits,IntKind.signed,IntKind.min,IntKind.max]at this;omega,by omega⟩
 obtain⟨g,m,u,n,hD,hg,hu⟩:=ZeW h;obtain⟨gl,gr⟩:=hg.max;have ul:u.length<=maxLen:=ZfZ (by omega);rw[hD];dsimp only[Option.bind_some];rcases rank gl gr m u ul n with ⟨k,rfl,k3,hgr,hm,hbd,cI,cS⟩|⟨code,c0,cI,cS⟩
 rotate_left
 ·
  have like0:=ZjX [] (by simp);have E1:Zap.f g m u n=some ([],code):=by rw[Zap.f_eq,cI,Option.bind_some,if_neg c0]
  have E2:Zar.f g m u n=some ([],code):=by rw[Zar.f_eq,cS,Option.bind_some,if_neg c0]
  have E3:Zaj.f g m u n=some ([],code):=by rw[Zaj.f_eq,cI,Option.bind_some,if_neg c0]
  have E4:Zak.f g m u n=some ([],code):=by rw[Zak.f_eq,cS,Option.bind_some,if_neg c0]
  have E5:Zaq.f g m u n=some ([],code):=by rw[Zaq.f_eq,cI,Option.bind_some,if_neg c0]
  have E6:Zas.f g m u n=some ([],code):=by rw[Zas.f_eq,cS,Option.bind_some,if_neg c0]
  have E7:ZS.f g m u n=some (0,code):=by rw[ZS.f_eq,cI,Option.bind_some,if_neg c0]
  have E8:ZT.f g m u n=some (0,code):=by rw[ZT.f_eq,cS,Option.bind_some,if_neg c0]
  have l0:((([]:List Int).length:Nat):Int)=0:=rfl;simp only[E1,E2,E3,E4,E5,E6,E7,E8,Option.bind_some,if_neg c0,like0,if_true,l0,decide_true]
 have m2:=hm.m2;have m12:=hm.m12
 obtain⟨z,z1,z2⟩:=ZdO hgr hm k3;obtain⟨b,b1,b2⟩:=ZeY hgr hm k3;obtain⟨p', q,h3,h4,h5⟩:=Both_ hgr hm k3;have b2:=b2.lead (by omega);have hBZ:∀x,Sp m (nB g k) (bdG g m u k) x->coM g m u k x:=λ x hx=>bd_co hgr hm k3 hx
 obtain⟨s1,_⟩:=Zkh m2 m12 (by omega) z2.tab;obtain⟨_,s2⟩:=Zkh m2 m12 (by omega) h5.tab;rw[<-Zgn (by omega) z2 h5]at s2;obtain⟨s3,_⟩:=Zkh m2 m12 (by omega) b2.tab;obtain⟨_,s4⟩:=Zkh m2 m12 (by omega) h4.tab;rw[<-Zgn (by omega) b2 h4]at s4;obtain⟨L,i1,i2,i3,i4⟩:=Zhb hgr hm k3 hbd;obtain⟨z', b', L', o1,o2,o3,o4,o5,o6⟩:=Zpa hgr hm k3 hbd;rw[z1]at o1
 cases o1
 rw[b1]at o2
 cases o2
 rw[i2]at o3
 cases o3
 have la:(Zby m z (nB g k)).length=nB g k:=by simp[Zby]
 have lb:(Zby m b (nB g k)).length=nB g k:=by simp[Zby]
 have l1:=ZjX (Zby m z (nB g k)) (by omega);have l2:=ZjX (Zby m b (nB g k)) (by omega);have l3:=ZjX L (by omega);have hP:=Zl6 (L:=L) (by omega) λ x hx=>by have:=(i3.chn.ent x hx).1;omega
 have hloop:=Zjp (g:=g) (u:=u) (n:=(k:Int)) (a:=Zby m z (nB g k)) (b:=Zby m b (nB g k)) (by omega) (by omega) (by omega) m2 m12 (by have:=hgr.n8;omega) (λ i hi=>ZkT m2 m12 z2 b2 hBZ i (by omega)) i3.chn (by omega) (by rw[ZfB m2 m12 z2,ZfB m2 m12 b2];exact i3.size m2 m12 b2.sub hBZ) (λ h=>by
  obtain⟨e,rfl⟩:∃e,k=e+1:=⟨k-1,by omega⟩
  exact Zod hgr hm (by omega) i3)
 have E1:Zap.f g m u (k:Int)=some (Zby m z (nB g k),0):=by
  rw[Zap.f_eq,cI,Option.bind_some,if_pos rfl,z1,Option.bind_some];show(ZK.f m z).bind _=_;rw[s1]
  rfl
 have E2:Zar.f g m u (k:Int)=some (Zby m z (nB g k),0):=by
  rw[Zar.f_eq,cS,Option.bind_some,if_pos rfl,h3,Option.bind_some];show(Zac.f q m).bind _=_;rw[s2]
  rfl
 have E3:Zaj.f g m u (k:Int)=some (Zby m b (nB g k),0):=by
  rw[Zaj.f_eq,cI,Option.bind_some,if_pos rfl,b1,Option.bind_some];show(ZK.f m b).bind _=_;rw[s3]
  rfl
 have E4:Zak.f g m u (k:Int)=some (Zby m b (nB g k),0):=by
  rw[Zak.f_eq,cS,Option.bind_some,if_pos rfl,h3,Option.bind_some];show(Zac.f p' m).bind _=_;rw[s4]
  rfl
 have E5:Zaq.f g m u (k:Int)=some (L,0):=by rw[Zaq.f_eq,cI,Option.bind_some,if_pos rfl,i1,Option.bind_some]
 have E6:Zas.f g m u (k:Int)=some (L,0):=by rw[Zas.f_eq,cS,Option.bind_some,if_pos rfl,i2,Option.bind_some]
 have E7:ZS.f g m u (k:Int)=some (wrapI ((prI L:Nat):Int),0):=by
  rw[ZS.f_eq,cI,Option.bind_some,if_pos rfl,z1,Option.bind_some,b1,Option.bind_some];show(Zn.f m z m b).bind _=_;rw[o5]
  rfl
 have E8:ZT.f g m u (k:Int)=some (wrapI ((prI L:Nat):Int),0):=by
  rw[ZT.f_eq,cS,Option.bind_some,if_pos rfl,Zav.f_eq,i2,Option.bind_some,o6]
  rfl
 simp only[E1,E2,E3,E4,E5,E6,E7,E8,Option.bind_some,l1,l2,l3,hP,if_true,la,lb];exact hloop
end Go.Proofs.YtdamfbighdkcbaaGreat.Pure
namespace Go.Proofs.YtdamfbighdkcbaaGreat.shut
theorem mayEnter:Tryz.pinned.checked.prog.mayEnter=true:=by kernel_rfl
theorem lifted:(Rows.fnExactInvariantsOfRow.lifted == Tryz.pinned.checked.prog.liftsFinal)=true:=by kernel_rfl
theorem make:(Tryz.pinned.checked.prog.make == some Rows.fnExactInvariantsOfRow.make)=true:=by kernel_rfl
end Go.Proofs.YtdamfbighdkcbaaGreat.shut
