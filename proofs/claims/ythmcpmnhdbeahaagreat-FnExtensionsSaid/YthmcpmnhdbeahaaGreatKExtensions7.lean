/- What the proof of the law Extensions stands on, part 7: words, each Go function's Lean function, and that the Go code comes to its answers; no condition. (Packed by wip/myprint/pack.py out of what the kit's printer wrote, its words among it, partly by our patches of it, and out of texts of this session.) -/
import Derived.Test.YthmcpmnhdbeahaaGreatProg
import Derived.Test.YthmcpmnhdbeahaaGreatChecked
import Derived.KernelRfl
import Derived.Test.YthmcpmnhdbeahaaGreatKExtensions3
import Derived.Test.YthmcpmnhdbeahaaGreatKExtensions4
import Derived.Test.YthmcpmnhdbeahaaGreatKExtensions5
import Derived.Test.YthmcpmnhdbeahaaGreatKExtensions6
set_option linter.unusedVariables false
set_option linter.unusedSimpArgs false
set_option maxHeartbeats 4000000
set_option maxRecDepth 20000
namespace Go.Proofs.YthmcpmnhdbeahaaGreat.V
open Go.RowKit Go.Proofs.YthmcpmnhdbeahaaGreat.D Go.Proofs.YthmcpmnhdbeahaaGreat.P
structure LB (g:List (List Int)) (m:Int) (u:List Int) (e:Nat) (v y:List Int):Prop where
 len:y.length=nB g e
 ent:AllIn m y
 mem:allM g m u e (V (v++y))
 lt:∀q,Lead m (nB g e) q (coM g m u e)→∀j:Nat,j < nB g e→rd y (j:Int) < dv m q j
theorem LB.same {g:List (List Int)} {m:Int} {u:List Int} {e:Nat} {v y y' : List Int} (m0:0 < m) (hv:v.length=nB g (e+1)) {q:List (List Int)} (hq:Lead m (nB g e) q (coM g m u e)) (h:LB g m u e v y) (h' : LB g m u e v y'):y=y' := by
 have hd:coM g m u e fun i=>rd y (i:Int) - rd y' (i:Int):=by
  refine .alike ((show Sp m _ _ _ from h.mem).plus ((show Sp m _ _ _ from h'.mem).mul (-1))) fun i hi=>Zbz ?_
  show rd (v++y) (i:Int) + -1*rd (v++y') (i:Int)=pad (nB g (e+1)) (fun i=>rd y (i:Int) - rd y' (i:Int)) i
  unfold pad
  by_cases k:i < nB g (e+1)
  ·
   rw[if_pos k,ZbF (by omega),ZbF (by omega)];omega
  ·
   rw[if_neg k,ZbN (by omega),ZbN (by omega),hv];dsimp only;omega
 exact Least.same m0 hq hq (x:=y) ⟨h.len,h.ent,hq.sub.alike _ _ hq.sub.zero fun i _=>Zbz (by simp),h.lt q hq⟩ ⟨h'.len,h'.ent,hd,h'.lt q hq⟩
theorem Zja {m:Int} {W A B:Nat} {p:List (List Int)} (ht:PTab m (A+B) p) {j:Nat} (hj:j < A):dv m (ZcS p A) j=dv m p j:=by
 unfold dv
 rw[ZdK hj]
 by_cases hn:row p (j:Int)=[]
 ·
  rw[hn];simp
 ·
  have hP:=ht.prow (show j < A+B by omega) hn
  have hl:=hP.len
  have:(row p (j:Int)).take A≠[]:=fun e=>by
   have:=congrArg List.length e
   rw[List.length_take,List.length_nil]at this
   omega
  rw[if_neg hn,if_neg this,Zdh hj]
theorem ZgQ {g:List (List Int)} {m:Int} (m0:0 < m) {u:List Int} {e:Nat} {p:List (List Int)} (hM:Lead m (nB g (e+1)+nB g e) p (allM g m u e)) (x:Vc) :
  (∃z,allM g m u e z∧∀i,i < nB g (e+1)→m∣z i - x i)↔Sp m (nB g (e+1)) (bdG g m u (e+1)) x :=
 ZfT (fun i hi=>Zcc ..) hM (hM.first m0 (q:=ZcS p (nB g (e+1))) (by simp[ZcS]) fun j hj=>ZdK hj).sub x
def negL (m:Int) (r:List Int):List Int:=(List.range r.length).map fun i:Nat=>(0 - rd r (i:Int))%m
theorem Zfy (m:Int) (r:List Int):(negL m r).length=r.length:=by simp[negL]
theorem ZjF {m:Int} {r:List Int} {i:Nat} (h:i < r.length):rd (negL m r) (i:Int)=(0 - rd r (i:Int))%m:=by
 rw[Zb3 (by rw[Zfy];exact h)];simp[negL]
theorem Zlr {m:Int} (m0:0 < m) (r:List Int):AllIn m (negL m r):=ZbX fun x hx=>by
 obtain⟨i,_,rfl⟩:=List.mem_map.1 hx
 exact⟨Int.emod_nonneg _ (by omega),Int.emod_lt_of_pos _ m0⟩
theorem lb_of {g:List (List Int)} {m:Int} (m0:0 < m) {u:List Int} {e:Nat} {p:List (List Int)} (hM:Lead m (nB g (e+1)+nB g e) p (allM g m u e)) {v y0 yf:List Int} (hv:v.length=nB g (e+1)) (hy:y0.length=nB g (e+1)+nB g e)
  (hd:allM g m u e fun i=>rd (v++List.replicate (nB g e) 0) (i:Int) - rd y0 (i:Int)) (hz:∀i:Nat,i < nB g (e+1)→rd y0 (i:Int)=0)
  (hL:Least m (nB g e) (Zcp p (nB g (e+1)) (nB g e)) (coM g m u e) (negL m (y0.drop (nB g (e+1)))) yf):LB g m u e v yf:=by
 have hq:=Zch m0 hM
 have dl:(y0.drop (nB g (e+1))).length=nB g e:=by rw[List.length_drop];omega
 refine⟨hL.len,hL.ent,?_,fun q' hq' j hj => ?_⟩
 ·
  have h2:allM g m u e (pad (nB g (e+1)) fun i=>rd (negL m (y0.drop (nB g (e+1)))) (i:Int) - rd yf (i:Int)):=hL.dif
  refine hM.sub.alike _ _ (hM.sub.lin _ _ hd h2 (-1)) fun i hi => ?_
  show m∣rd (v++List.replicate (nB g e) 0) (i:Int) - rd y0 (i:Int) + -1*pad (nB g (e+1)) (fun i=>rd (negL m (y0.drop (nB g (e+1)))) (i:Int) - rd yf (i:Int)) i - rd (v++yf) (i:Int)
  unfold pad
  by_cases k:i < nB g (e+1)
  ·
   rw[if_pos k,ZbF (by omega),ZbF (by omega),hz i k]
   exact⟨0,by omega⟩
  ·
   rw[if_neg k,ZbN (by omega),ZbN (by omega),hv,Zb5]
   dsimp only
   rw[ZjF (by omega),ZfC,show nB g (e+1)+(i - nB g (e+1))=i by omega]
   have:=Int.mul_ediv_add_emod (0 - rd y0 (i:Int)) m
   exact⟨(0 - rd y0 (i:Int)) / m,by omega⟩
 ·
  rw[←Zjb m0 hq hq' hj]
  exact hL.lt j hj
theorem leastBounded_ {g:List (List Int)} (hg:Grp g) {m:Int} {u:List Int} (hm:Mdl g m u) {e:Nat} {v:List Int} (hc:Co g m ((e+1:Nat):Int) v) :
  (Sp m (nB g (e+1)) (bdG g m u (e+1)) (V v)∧∃y,ZF.f g m u ((e+1:Nat):Int) v=some ((e:Int),y,true)∧LB g m u e v y) ∨
  (¬ Sp m (nB g (e+1)) (bdG g m u (e+1)) (V v)∧ZF.f g m u ((e+1:Nat):Int) v=some (0,[],false)):=by
 have m2:=hm.m2;have m12:=hm.m12
 have he:=hc.1.2
 have vl:=hc.nB hg
 obtain⟨b1,b2⟩:=nA_bd hg (e:=e) (by omega)
 obtain⟨c1,c2⟩:=nA_bd hg (e:=e+1) (by omega)
 obtain⟨p,h1,h2⟩:=Zgd hg hm (n:=e) (by omega)
 have hM:=h2.lead (by omega)
 have hM:Lead m (nB g (e+1)+nB g e) p (allM g m u e):=hM
 have hcl:=ZeK hg (d:=(e:Int)) (by omega) (by omega)
 rw[←b2]at hcl
 have zl:(List.replicate (nB g e) (0:Int)).length=nB g e:=List.length_replicate
 have hcat:=concat2 (a:=v) (b:=List.replicate (nB g e) (0:Int)) (by omega) (by omega)
 have rl:(v++List.replicate (nB g e) (0:Int)).length=nB g (e+1)+nB g e:=by rw[List.length_append,zl,vl]
 have ra:AllIn m (v++List.replicate (nB g e) (0:Int)):=hc.2.2.append (Ze5 (by omega) _)
 obtain⟨y0,t,h3,h4⟩:=rest_ m2 m12 (by omega) hM rl ra
 have yl:=h4.len
 have tl:(y0.take (nB g (e+1))).length=nB g (e+1):=by rw[List.length_take];omega
 have h5:=Zjt (y0.take (nB g (e+1))) (by omega)
 have w:wrapI (((e+1:Nat):Int) - 1)=(e:Int):=by rw[w64 (by omega) (by omega)];omega
 have hLf:Least m (nB g (e+1)) (ZcS p (nB g (e+1))) (fun x=>∃z,allM g m u e z∧∀i,i < nB g (e+1)→m∣z i - x i) v (y0.take (nB g (e+1))) :=
  ⟨tl,h4.ent.take _,⟨_,h4.dif,fun i hi=>Zbz (by dsimp only;rw[ZbF (by omega),Zdh hi])⟩,fun j hj=>by rw[Zja (W:=0) hM.tab hj,Zdh hj];exact h4.lt j (by omega)⟩
 have hF:=hM.first (by omega) (q:=ZcS p (nB g (e+1))) (by simp[ZcS]) fun j hj=>ZdK hj
 have hzi:=hLf.zero_iff (by omega) hF
 have hzi:Zr (y0.take (nB g (e+1)))↔Sp m (nB g (e+1)) (bdG g m u (e+1)) (V v):=hzi.trans (ZgQ (by omega) hM (V v))
 rw[ZbT hzi]at h5
 have start:ZF.f g m u ((e+1:Nat):Int) v=(Zbh.f (y0.take (nB g (e+1)))).bind fun t46=>if t46=true then(ZF.l0 ((nB g (e+1):Nat):Int) (y0.drop (nB g (e+1))) ((y0.drop (nB g (e+1))).length:Int) 0 m u 0 m (e:Int) [] p [])else(some (0,[],false)):=by
  clear h5
  rw[ZF.f_eq,w,if_neg (by omega),h1,Option.bind_some,hcl,Option.bind_some,Int.toNat_natCast]
  (with_reducible repeat (first|refine Zj (by first|assumption|omega|rfl|exact B_pos (by omega)) ?_|refine Zi (by first|assumption|omega|decide|exact B_not (by omega)) ?_|refine Za (by first|assumption) ?_|dsimp only))
  rw[Int.toNat_natCast,show(if 0≤((nB g (e+1):Nat):Int)then if((nB g (e+1):Nat):Int)≤(y0.length:Int)then ZF.l0 ((nB g (e+1):Nat):Int) (y0.drop (nB g (e+1))) ((y0.drop (nB g (e+1))).length:Int) 0 m u 0 m (e:Int) [] p []else none else none)=ZF.l0 ((nB g (e+1):Nat):Int) (y0.drop (nB g (e+1))) ((y0.drop (nB g (e+1))).length:Int) 0 m u 0 m (e:Int) [] p []by rw[if_pos (by omega),if_pos (by omega)]]
 rw[start]
 by_cases hb:Sp m (nB g (e+1)) (bdG g m u (e+1)) (V v)
 rotate_left
 ·
  rw[B_neg hb]at h5
  exact .inr ⟨hb,by((with_reducible repeat (first|refine Zj (by first|assumption|omega|rfl|exact B_pos (by omega)) ?_|refine Zi (by first|assumption|omega|decide|exact B_not (by omega)) ?_|refine Za (by first|assumption) ?_|dsimp only));first|done|(with_reducible rfl)|simp (disch:=omega) only[w64]|(show False;done))⟩
 rw[B_pos hb]at h5
 refine .inl ⟨hb,?_⟩
 obtain⟨r,hr⟩:∃r,r=y0.drop (nB g (e+1)):=⟨_,rfl⟩
 have rdl:r.length=nB g e:=by rw[hr,List.length_drop];omega
 have rin:AllIn m r:=by rw[hr];exact h4.ent.drop _
 have nl:=Zfy m r
 have hq:=Zch (show 0 < m by omega) hM
 obtain⟨yf,h6,h7⟩:=ZkT m2 m12 (W:=nB g e) (by omega) hq (e:Int) (by rw[nl,rdl]) (Zlr (by omega) r)
 have hp:=part_ (m:=m) (A:=nB g (e+1)) (B:=nB g e) (by omega) (by omega) hM.tab
 have l2:∀x:Int,([x]:List Int).length=1:=fun _=>rfl
 have loop:=up r.length (fun i=>ZF.l0 ((nB g (e+1):Nat):Int) r (r.length:Int) (i:Int) m u 0 m (e:Int) [] p ((negL m r).take i)) (fun i hi=>by
  obtain⟨a0,a1⟩:=rin i (by omega) (by omega)
  have ek:(wrapI (m - rd r (i:Int))).tmod m=(0 - rd r (i:Int))%m:=by
   rw[w64 (by omega) (by omega),ZbW (by omega),show m - rd r (i:Int)=m+(0 - rd r (i:Int))by omega,Int.add_emod_left]
  have tk:((negL m r).take i).length=i:=by rw[List.length_take];omega
  rw[Zcx (by omega),ZjF hi,ZF.l0_eq,wn (j:=i) (by omega),ek]
  (with_reducible repeat (first|refine Zj (by first|assumption|omega|rfl|exact B_pos (by omega)) ?_|refine Zi (by first|assumption|omega|decide|exact B_not (by omega)) ?_|refine Za (by first|assumption) ?_|dsimp only))
  rw[l2]
  ((with_reducible repeat (first|refine Zj (by first|assumption|omega|rfl|exact B_pos (by omega)) ?_|refine Zi (by first|assumption|omega|decide|exact B_not (by omega)) ?_|refine Za (by first|assumption) ?_|dsimp only));first|done|(with_reducible rfl)|simp (disch:=omega) only[w64]|(show False;done)))
 simp only[Int.natCast_zero,List.take_zero]at loop
 rw[List.take_of_length_le (by omega)]at loop
 refine⟨yf,?_,lb_of (by omega) hM vl yl h4.dif (fun i hi => ?_) (by rw[←hr];exact h7)⟩
 ·
  rw[←hr]
  (with_reducible repeat (first|refine Zj (by first|assumption|omega|rfl|exact B_pos (by omega)) ?_|refine Zi (by first|assumption|omega|decide|exact B_not (by omega)) ?_|refine Za (by first|assumption) ?_|dsimp only))
  rw[loop,ZF.l0_eq]
  ((with_reducible repeat (first|refine Zj (by first|assumption|omega|rfl|exact B_pos (by omega)) ?_|refine Zi (by first|assumption|omega|decide|exact B_not (by omega)) ?_|refine Za (by first|assumption) ?_|dsimp only));first|done|(with_reducible rfl)|simp (disch:=omega) only[w64]|(show False;done))
 ·
  have:=hzi.2 hb (i:Int) (by omega) (by omega)
  rwa[Zdh hi]at this
end Go.Proofs.YthmcpmnhdbeahaaGreat.V
namespace Go.Proofs.YthmcpmnhdbeahaaGreat.V
open Go.RowKit Go.Proofs.YthmcpmnhdbeahaaGreat.D
def sgn:Nat→Int
 | 0 => -1
 | j+1=>0 - sgn j
def sumJ (g:List (List Int)) (A:List Int→Int) (xs:List Int):Nat→Int
 | 0=>0
 | j+1=>sumJ g A xs j+sgn j*A (join2 g xs j)
def BdS (g:List (List Int)) (u:List Int) (A:List Int→Int) (xs:List Int) (d:Nat):Int:=rd u (rd xs 0)*A (xs.drop 1)+sumJ g A xs d+sgn d*A (xs.take d)
theorem Bd_eq (g:List (List Int)) (u v xs:List Int) (d:Nat):Bd g u v xs d=BdS g u (At g v) xs d:=by
 have h:∀j,bsum g u v xs j=(rd u (rd xs 0)*At g v (xs.drop 1)+sumJ g (At g v) xs j,sgn j):=by
  intro j
  induction j with
  | zero=>simp[bsum,sumJ,sgn]
  | succ j ih=>simp only[bsum,ih,sumJ,sgn,Int.add_assoc]
 unfold Bd BdS
 rw[h d]
theorem ZkF (g:List (List Int)) (A A' : List Int→Int) (c:Int) (xs:List Int):∀d,sumJ g (fun l=>A l+c*A' l) xs d=sumJ g A xs d+c*sumJ g A' xs d:=by
 intro d
 induction d with
 | zero=>simp[sumJ]
 | succ d ih =>
  simp only[sumJ,ih,Int.mul_add]
  rw[←Int.mul_assoc (sgn d) c,Int.mul_comm (sgn d) c,Int.mul_assoc]
  omega
theorem ZkX (g:List (List Int)) (u:List Int) (A A' : List Int→Int) (c:Int) (xs:List Int) (d:Nat):BdS g u (fun l=>A l+c*A' l) xs d=BdS g u A xs d+c*BdS g u A' xs d:=by
 unfold BdS
 rw[ZkF]
 simp only[Int.mul_add]
 rw[←Int.mul_assoc (sgn d) c,Int.mul_comm (sgn d) c,Int.mul_assoc,←Int.mul_assoc (rd u (rd xs 0)) c,Int.mul_comm (rd u (rd xs 0)) c,Int.mul_assoc]
 omega
noncomputable def AtF (g:List (List Int)) (h:Vc) (xs:List Int):Int:=ite_ (Zci xs) (h (idx g xs).toNat) 0
theorem At_F (g:List (List Int)) (v:List Int):At g v=AtF g (V v):=by
 funext xs
 unfold At AtF
 by_cases h:Zci xs
 ·
  rw[Zb0 h,Zb0 h];show v.getD (idx g xs).toNat 0=v.getD ((((idx g xs).toNat:Nat):Int)).toNat 0;rw[Int.toNat_natCast]
 ·
  rw[ZbP h,ZbP h]
theorem ZkW (g:List (List Int)) (h h' : Vc) (c:Int):AtF g (fun i=>h i+c*h' i)=fun l=>AtF g h l+c*AtF g h' l:=by
 funext xs
 unfold AtF
 by_cases k:Zci xs
 ·
  simp only[Zb0 k]
 ·
  simp only[ZbP k];omega
theorem Zkb (g:List (List Int)):AtF g (fun _=>0)=fun _=>0:=by
 funext xs
 unfold AtF
 by_cases k:Zci xs
 ·
  rw[Zb0 k]
 ·
  rw[ZbP k]
theorem Zj6 (g:List (List Int)) (xs:List Int):∀d,sumJ g (fun _=>0) xs d=0:=by
 intro d
 induction d with
 | zero=>rfl
 | succ d ih=>simp[sumJ,ih]
theorem Zkc (g:List (List Int)) (u xs:List Int) (d:Nat):BdS g u (fun _=>0) xs d=0:=by unfold BdS;rw[Zj6];simp
theorem Zjq {g:List (List Int)} (hg:Grp g) {e:Nat} (he:e≤3) {xs:List Int} (hx:AllIn g.length xs) (hl:xs.length=e) (h:Zci xs):0≤idx g xs∧(idx g xs).toNat < nB g e:=by
 obtain⟨a,b⟩:=Zec hg (Zip hg (m:=2) (by omega) he 0) hx (by omega) h
 rw[ZcT]at b
 have:((cells g (e:Int)).toNat:Int)=((nB g e:Nat):Int):=rfl
 omega
theorem Ze6 {g:List (List Int)} (hg:Grp g) {m:Int} {e:Nat} (he:e≤3) {h h' : Vc} (hh:∀i,i < nB g e→m∣h i - h' i) {xs:List Int} (hx:AllIn g.length xs) (hl:xs.length=e):m∣AtF g h xs - AtF g h' xs:=by
 unfold AtF
 by_cases k:Zci xs
 ·
  rw[Zb0 k,Zb0 k]
  exact hh _ (Zjq hg he hx hl k).2
 ·
  rw[ZbP k,ZbP k]
  exact⟨0,by omega⟩
theorem Zdb {m a b c:Int} (h:m∣a - b):m∣c*a - c*b:=by
 rw[←Int.mul_sub];exact Int.dvd_mul_of_dvd_right h
theorem Zda {m a b c d:Int} (h:m∣a - b) (h' : m∣c - d):m∣(a+c) - (b+d):=by
 have:=Int.dvd_add h h'
 rwa[show a - b+(c - d)=a+c - (b+d)by omega]at this
theorem ZgI {g:List (List Int)} (hg:Grp g) {m:Int} {u:List Int} {e:Nat} (he:e≤3) {h h' : Vc} (hh:∀i,i < nB g e→m∣h i - h' i) {xs:List Int} (hx:AllIn g.length xs) (hl:xs.length=e+1):m∣BdS g u (AtF g h) xs e - BdS g u (AtF g h') xs e:=by
 unfold BdS
 refine Zda (Zda (Zdb (Ze6 hg he hh (hx.drop 1) (by rw[List.length_drop];omega))) ?_) (Zdb (Ze6 hg he hh (hx.take e) (by rw[List.length_take];omega)))
 have:∀d,d≤e→m∣sumJ g (AtF g h) xs d - sumJ g (AtF g h') xs d:=by
  intro d
  induction d with
  | zero=>intro _;exact⟨0,by simp[sumJ]⟩
  | succ d ih =>
   intro hd
   obtain⟨k1,k2⟩:=Ze1 hg hx (j:=d) (by omega)
   exact Zda (ih (by omega)) (Zdb (Ze6 hg he hh k1 (by omega)))
 exact this e (Nat.le_refl _)
def Bnd (g:List (List Int)) (m:Int) (u:List Int) (e:Nat) (z:Vc):Prop:=∀i,i < nB g (e+1)→m∣z i - BdS g u (AtF g fun k=>z (nB g (e+1)+k)) (lst ((g.length:Int) - 1) (e+1) (i:Int)) e
theorem ZjA {g:List (List Int)} (hg:Grp g) {e i:Nat} (he:e≤3) (hi:i < nB g (e+1)):AllIn g.length (lst ((g.length:Int) - 1) (e+1) (i:Int))∧Zci (lst ((g.length:Int) - 1) (e+1) (i:Int)):=by
 obtain⟨c1,c2⟩:=nA_bd hg (e:=e+1) (by omega)
 exact Zgm hg (n:=e+1) (by omega)
theorem ZhV {g:List (List Int)} (hg:Grp g) {m:Int} (m2:2≤m) {u:List Int} {e:Nat} (he:e≤3) {z:Vc} (hz:allM g m u e z):Bnd g m u e z:=by
 have hs:Sub m (nB g (e+1)+nB g e) (Bnd g m u e):=by
  refine⟨fun i hi => ?_,fun x y hx hy c i hi => ?_,fun x y hx h i hi => ?_⟩
  ·
   rw[Zkb,Zkc];exact⟨0,by dsimp only;omega⟩
  ·
   have e1:=ZkW g (fun k=>x (nB g (e+1)+k)) (fun k=>y (nB g (e+1)+k)) c
   rw[e1,ZkX]
   exact Zda (hx i hi) (Zdb (hy i hi))
  ·
   have h1:=hx i hi
   have h2:=h i (by omega)
   have h3:=ZgI hg (u:=u) he (h:=fun k=>x (nB g (e+1)+k)) (h' := fun k=>y (nB g (e+1)+k)) (m:=m) (fun k hk=>h _ (by omega)) (ZjA hg he hi).1 (ZcX ..)
   have:=Int.dvd_add (Int.dvd_sub h1 h2) h3
   rwa[show ∀a b c d:Int,a - b - (a - c)+(b - d)=c - d from fun a b c d=>by omega]at this
 refine hs.all (fun w hw => ?_) hz
 obtain⟨k,hk,rfl⟩:=hw
 intro i hi
 have bl:(bdU g m u e k).length=nB g (e+1):=Zcc ..
 have e1:(fun j=>V (bdA g m u e k) (nB g (e+1)+j))=V (unitC (cells g (e:Int)).toNat k):=by
  funext j
  show rd (bdU g m u e k++unitC (nB g e) k) ((nB g (e+1)+j:Nat):Int)=rd (unitC (nB g e) k) (j:Int)
  rw[ZbN (by omega),bl,show nB g (e+1)+j - nB g (e+1)=j by omega]
 have e2:V (bdA g m u e k) i=bdV g u (unitC (cells g (e:Int)).toNat k) e i%m:=by
  show rd (bdU g m u e k++unitC (nB g e) k) (i:Int)=_
  rw[ZbF (by omega),Zb3 (by omega)]
  simp only[bdU,bdL,List.getElem_map,List.getElem_range]
 rw[e1,e2,←At_F,←Bd_eq]
 exact⟨-(bdV g u (unitC (cells g (e:Int)).toNat k) e i / m),by
  have:=Int.mul_ediv_add_emod (bdV g u (unitC (cells g (e:Int)).toNat k) e i) m
  rw[Int.mul_neg]
  show bdV g u (unitC (cells g (e:Int)).toNat k) e i%m - bdV g u (unitC (cells g (e:Int)).toNat k) e i=_
  omega⟩
noncomputable def sumA (g:List (List Int)) (m:Int) (u:List Int) (e:Nat) (y:Vc):Nat→Vc
 | 0=>fun _=>0
 | k+1=>fun i=>sumA g m u e y k i+y k*V (bdA g m u e k) i
theorem ZkE {g:List (List Int)} {m:Int} {u:List Int} {e:Nat} (y:Vc):∀k,k≤nB g e→allM g m u e (sumA g m u e y k):=by
 intro k
 induction k with
 | zero=>exact fun _ => .nil
 | succ k ih=>exact fun hk => .add _ (ih (by omega)) ⟨k,by omega,rfl⟩
theorem ZkH {c k j:Nat} (hk:k < c):rd (unitC c k) (j:Int)=if j=k then 1 else 0:=by
 unfold unitC
 by_cases e:j=k
 ·
  subst e;rw[if_pos rfl,Zdg (by simpa using hk)]
 ·
  rw[if_neg e,Zeo e,Zb5]
theorem Zj5 {g:List (List Int)} {m:Int} {u:List Int} {e:Nat} (y:Vc) (j:Nat):∀k,k≤nB g e→sumA g m u e y k (nB g (e+1)+j)=if j < k then y j else 0:=by
 intro k
 induction k with
 | zero=>intro _;simp[sumA]
 | succ k ih =>
  intro hk
  have bl:(bdU g m u e k).length=nB g (e+1):=Zcc ..
  have e1:V (bdA g m u e k) (nB g (e+1)+j)=if j=k then 1 else 0:=by
   show rd (bdU g m u e k++unitC (nB g e) k) ((nB g (e+1)+j:Nat):Int)=_
   rw[ZbN (by omega),bl,show nB g (e+1)+j - nB g (e+1)=j by omega,ZkH (by omega)]
  show sumA g m u e y k (nB g (e+1)+j)+y k*V (bdA g m u e k) (nB g (e+1)+j)=_
  rw[ih (by omega),e1]
  by_cases h1:j < k
  ·
   rw[if_pos h1,if_neg (by omega),if_pos (by omega)];omega
  ·
   by_cases h2:j=k
   ·
    subst h2;rw[if_neg h1,if_pos rfl,if_pos (by omega)];omega
   ·
    rw[if_neg h1,if_neg h2,if_neg (by omega)];omega
theorem Zkj {g:List (List Int)} (hg:Grp g) {m:Int} (m2:2≤m) {u:List Int} {e:Nat} (he:e≤3) {z:Vc} (hz:Bnd g m u e z):allM g m u e z:=by
 have h1:=ZkE (g:=g) (m:=m) (u:=u) (e:=e) (fun k=>z (nB g (e+1)+k)) (nB g e) (Nat.le_refl _)
 have h2:=ZhV hg m2 he h1
 have ht:∀j,j < nB g e→sumA g m u e (fun k=>z (nB g (e+1)+k)) (nB g e) (nB g (e+1)+j)=z (nB g (e+1)+j):=fun j hj=>by
  rw[Zj5 _ _ _ (Nat.le_refl _),if_pos hj]
 refine .alike h1 fun i hi => ?_
 by_cases k:i < nB g (e+1)
 ·
  have a:=h2 i k
  have b:=hz i k
  have c:=ZgI hg (u:=u) (m:=m) he (h:=fun k=>sumA g m u e (fun k=>z (nB g (e+1)+k)) (nB g e) (nB g (e+1)+k)) (h' := fun k=>z (nB g (e+1)+k)) (fun j hj=>Zbz (ht j hj)) (ZjA hg he k).1 (ZcX ..)
  have:=Int.dvd_sub (Int.dvd_add a c) b
  rwa[show ∀a b c d:Int,a - b+(b - c) - (d - c)=a - d from fun a b c d=>by omega]at this
 ·
  obtain⟨j,rfl⟩:∃j,i=nB g (e+1)+j:=⟨i - nB g (e+1),by omega⟩
  exact Zbz (ht j (by omega))
theorem Zkf {g:List (List Int)} (hg:Grp g) {m:Int} (m2:2≤m) {u:List Int} {e:Nat} (he:e≤3) {w y:List Int} (hw:w.length=nB g (e+1)):allM g m u e (V (w++y))↔∀i,i < nB g (e+1)→m∣rd w (i:Int) - bdV g u y e i:=by
 have e1:(fun k=>V (w++y) (nB g (e+1)+k))=V y:=by
  funext k
  show rd (w++y) ((nB g (e+1)+k:Nat):Int)=rd y (k:Int)
  rw[ZbN (by omega),hw,show nB g (e+1)+k - nB g (e+1)=k by omega]
 have e2:Bnd g m u e (V (w++y))↔∀i,i < nB g (e+1)→m∣rd w (i:Int) - bdV g u y e i:=by
  unfold Bnd
  rw[e1]
  constructor
  ·
   intro h i hi
   have:=h i hi
   rw[←At_F,←Bd_eq]at this
   rwa[show V (w++y) i=rd w (i:Int)from ZbF (by omega)]at this
  ·
   intro h i hi
   rw[←At_F,←Bd_eq,show V (w++y) i=rd w (i:Int)from ZbF (by omega)]
   exact h i hi
 exact⟨fun h=>e2.1 (ZhV hg m2 he h),fun h=>Zkj hg m2 he (e2.2 h)⟩
def LexLe (W:Nat) (x y:List Int):Prop:=(∀i:Nat,i < W→rd x (i:Int)=rd y (i:Int))∨∃j:Nat,j < W∧(∀i:Nat,i < j→rd x (i:Int)=rd y (i:Int))∧rd x (j:Int) < rd y (j:Int)
theorem LexLe.anti {W:Nat} {x y:List Int} (h:LexLe W x y) (h' : LexLe W y x):∀i:Nat,i < W→rd x (i:Int)=rd y (i:Int):=by
 rcases h with h|⟨j,hj,h1,h2⟩
 ·
  exact h
 ·
  rcases h' with h' | ⟨k,hk,h3,h4⟩
  ·
   exact fun i hi=>(h' i hi).symm
  ·
   exfalso
   rcases Nat.lt_trichotomy j k with q|q|q
   ·
    have:=h3 j q;omega
   ·
    subst q;omega
   ·
    have:=h1 k q;omega
theorem LB.first {g:List (List Int)} {m:Int} (m0:0 < m) {u:List Int} {e:Nat} {v y h:List Int} (hv:v.length=nB g (e+1)) {q:List (List Int)} (hq:Lead m (nB g e) q (coM g m u e)) (hy:LB g m u e v y) (hl:h.length=nB g e) (ha:AllIn m h) (hh:allM g m u e (V (v++h))):LexLe (nB g e) y h:=by
 have hd:coM g m u e fun i=>rd h (i:Int) - rd y (i:Int):=by
  refine .alike ((show Sp m _ _ _ from hh).plus ((show Sp m _ _ _ from hy.mem).mul (-1))) fun i hi=>Zbz ?_
  show rd (v++h) (i:Int) + -1*rd (v++y) (i:Int)=pad (nB g (e+1)) (fun i=>rd h (i:Int) - rd y (i:Int)) i
  unfold pad
  by_cases k:i < nB g (e+1)
  ·
   rw[if_pos k,ZbF (by omega),ZbF (by omega)];omega
  ·
   rw[if_neg k,ZbN (by omega),ZbN (by omega),hv];dsimp only;omega
 have main:∀k,k≤nB g e→(∀i:Nat,i < k→rd y (i:Int)=rd h (i:Int))∨∃j:Nat,j < nB g e∧(∀i:Nat,i < j→rd y (i:Int)=rd h (i:Int))∧rd y (j:Int) < rd h (j:Int):=by
  intro k
  induction k with
  | zero=>exact fun _ => .inl fun i hi=>by omega
  | succ k ih =>
   intro hk
   rcases ih (by omega)with h1|h1
   rotate_left
   ·
    exact .inr h1
   by_cases h2:rd y (k:Int)=rd h (k:Int)
   ·
    refine .inl fun i hi => ?_
    by_cases q:i=k
    ·
     rw[q];exact h2
    ·
     exact h1 i (by omega)
   ·
    refine .inr ⟨k,by omega,h1,?_⟩
    have hdv:=hq.lead _ hd k (by omega) fun i hi=>by rw[h1 i hi];exact⟨0,by omega⟩
    have b:=hy.lt q hq k (by omega)
    have yl:=hy.len
    obtain⟨y0,y1⟩:=hy.ent k (by omega) (by omega)
    obtain⟨h0,_⟩:=ha k (by omega) (by omega)
    by_cases hc:rd y (k:Int) < rd h (k:Int)
    ·
     exact hc
    ·
     have h3:dv m q k∣rd y (k:Int) - rd h (k:Int):=by
      have:=Int.dvd_neg.2 hdv
      rwa[show -(rd h (k:Int) - rd y (k:Int))=rd y (k:Int) - rd h (k:Int)by omega]at this
     have:=Int.le_of_dvd (by omega) h3
     omega
 exact(main _ (Nat.le_refl _)).imp id id
end Go.Proofs.YthmcpmnhdbeahaaGreat.V
namespace Go.Proofs.YthmcpmnhdbeahaaGreat.V
open Go.RowKit Go.Proofs.YthmcpmnhdbeahaaGreat.D Go.Proofs.YthmcpmnhdbeahaaGreat.P
theorem Zly {xs:List Int} {n:Nat} (h:xs.length=n+1):∃ys x,xs=ys++[x]∧ys.length=n:=by
 have hne:xs≠[]:=fun e=>by rw[e]at h;simp at h
 refine⟨xs.dropLast,xs.getLast hne,(List.dropLast_concat_getLast hne).symm,by rw[List.length_dropLast];omega⟩
theorem Zjz {g:List (List Int)}:∀(n:Nat) (xs:List Int),xs.length=n→(∀x∈xs,1≤x∧x < g.length)→lst ((g.length:Int) - 1) n (idx g xs)=xs:=by
 intro n
 induction n with
 | zero=>intro xs hl _;rw[List.eq_nil_of_length_eq_zero hl];rfl
 | succ n ih =>
  intro xs hl hx
  obtain⟨ys,x,rfl,hy⟩:=Zly hl
  obtain⟨x0,x1⟩:=hx x (by simp)
  rw[Zgi,lst]
  have e1:(idx g ys*((g.length:Int) - 1)+x - 1) / ((g.length:Int) - 1)=idx g ys:=by
   rw[show idx g ys*((g.length:Int) - 1)+x - 1=(x - 1)+idx g ys*((g.length:Int) - 1)by omega,Int.add_mul_ediv_right _ _ (by omega),Int.ediv_eq_zero_of_lt (by omega) (by omega)]
   omega
  have e2:(idx g ys*((g.length:Int) - 1)+x - 1)%((g.length:Int) - 1)=x - 1:=by
   rw[show idx g ys*((g.length:Int) - 1)+x - 1=(x - 1)+idx g ys*((g.length:Int) - 1)by omega,Int.add_mul_emod_self_right,Int.emod_eq_of_lt (by omega) (by omega)]
  rw[e1,e2,ih ys hy fun z hz=>hx z (by simp[hz]),show x - 1+1=x by omega]
theorem Zlh {g:List (List Int)}:∀(n:Nat) (i:Int),0≤i→i < ((g.length:Int) - 1) ^ n→(n=0∨2≤g.length)→idx g (lst ((g.length:Int) - 1) n i)=i:=by
 intro n
 induction n with
 | zero=>intro i i0 i1 _;rw[Int.pow_zero]at i1;simp[lst,idx];omega
 | succ n ih =>
  intro i i0 i1 h2
  have hb:0 < (g.length:Int) - 1:=by omega
  rw[lst,Zgi,ih _ (Int.ediv_nonneg i0 (by omega)) (by
   rw[Int.pow_succ]at i1
   exact Int.ediv_lt_of_lt_mul hb i1) (by omega)]
  have:=Int.mul_ediv_add_emod i ((g.length:Int) - 1)
  rw[Int.mul_comm]at this
  omega
def ConP (g:List (List Int)) (m:Int) (u v r:List Int) (n:Nat):Prop:=∀x:Int,0≤x→x < n→∀y:Int,0≤y→y < n→T g x y < n→(rd r x+rd u x*rd r y+At g v [x,y])%m=rd r (T g x y)
theorem ConP.pre {g:List (List Int)} {m:Int} {u v r r' : List Int} {n n' : Nat} (h:ConP g m u v r n) (hn:n' ≤ n) (hg:Grp g) (hN:n≤g.length) (he:∀i:Int,0≤i→i < n' → rd r' i=rd r i):ConP g m u v r' n' := by
 intro x x0 x1 y y0 y1 ht
 have e:=h x x0 (by omega) y y0 (by omega) (by omega)
 obtain⟨t0,_⟩:=hg.ent x y x0 (by omega) y0 (by omega)
 rw[he x x0 x1,he y y0 y1,he _ t0 ht]
 exact e
structure Ext (g:List (List Int)) (m:Int) (u v list r:List Int):Prop where
 len:r.length=g.length
 ent:AllIn m r
 con:ConP g m u v r g.length
 pre:r.take list.length=list
theorem Ze4 {r l:List Int} (h:r.take l.length=l) {i:Int} (i0:0≤i) (i1:i < l.length):rd l i=rd r i:=by
 obtain⟨n,rfl⟩:=Int.eq_ofNat_of_zero_le i0
 rw[←h,Zdh (by omega)]
theorem con_w {g:List (List Int)} (hg:Grp g) {m:Int} {u v r:List Int} (hm:Mdl g m u) (hc:Co g m 2 v) (ha:AllIn m r) {x y:Int} (x0:0≤x) (x1:x < r.length) (y0:0≤y) (y1:y < r.length) (hr:r.length≤g.length) :
  (wrapI (wrapI (rd r x+wrapI (rd u x*rd r y))+At g v [x,y])).tmod m=(rd r x+rd u x*rd r y+At g v [x,y])%m:=by
 have m2:=hm.m2;have m12:=hm.m12
 obtain⟨a0,a1⟩:=ha x x0 x1
 obtain⟨b0,b1⟩:=ha y y0 y1
 obtain⟨c0,c1⟩:=ZdM hm x0 (by omega) b0 b1
 obtain⟨d0,d1⟩:=At_bd hg (by omega) hc (ZcE x0 (show x < g.length by omega) y0 (show y < g.length by omega)) rfl
 rw[w64 (x:=rd u x*rd r y) (by omega) (by omega),w64 (x:=rd r x+rd u x*rd r y) (by omega) (by omega),w64 (by omega) (by omega),ZbW (by omega)]
theorem Zk0 {g:List (List Int)} (hg:Grp g) {m:Int} {u v:List Int} (hm:Mdl g m u) (hc:Co g m 2 v) (k:Nat) {list:List Int} (ha:AllIn m list) (hl:list.length≤g.length) :
  Zv.f (k+1) g m u 2 v list=ite_ (ConP g m u v list list.length) (if(list.length:Int)=(g.length:Int)then some (list,true)else Zv.l2 k list 0 g m u 2 v) (some ([],false)):=by
 have n8:=hg.n8
 have m2:=hm.m2;have m12:=hm.m12
 have hlu:=hm.len
 rw[Zv.f_eq]
 have outer:=scan list.length (fun x=>Zv.l0 k list (list.length:Int) x g m u 2 v) (fun x=>∀y:Int,0≤y→y < list.length→T g x y < list.length→(rd list x+rd u x*rd list y+At g v [x,y])%m=rd list (T g x y)) (some ([],false)) (fun x x0 x1 _=>by
  have rx:=hg.row x x0 (by omega)
  have inner:=scanI list.length (fun y=>Zv.l1 k list (list.length:Int) x y g m u 2 v) (fun y=>T g x y < list.length→(rd list x+rd u x*rd list y+At g v [x,y])%m=rd list (T g x y)) (some ([],false)) (Zv.l0 k list (list.length:Int) (x+1) g m u 2 v) (fun y y0 y1 _=>by
   obtain⟨t0,t1⟩:=hg.ent x y x0 (by omega) y0 (by omega)
   have hat:=At_ (u:=u) hg hc (ZcE x0 (show x < g.length by omega) y0 (show y < g.length by omega)) rfl
   have ew:=con_w hg hm hc ha x0 x1 y0 y1 hl
   refine⟨fun h => ?_,fun h => ?_⟩
   ·
    by_cases ht:T g x y < list.length
    ·
     have h:=h ht
     rw[Zv.l1_eq,hat,Option.bind_some,ew,w64 (x:=y+1) (by omega) (by omega)]
     clear ew
     ((with_reducible repeat (first|refine Zj (by first|assumption|omega|rfl|exact B_pos (by omega)) ?_|refine Zi (by first|assumption|omega|decide|exact B_not (by omega)) ?_|refine Za (by first|assumption) ?_|dsimp only));first|done|(with_reducible rfl)|simp (disch:=omega) only[w64]|(show False;done))
    ·
     rw[Zv.l1_eq,w64 (x:=y+1) (by omega) (by omega)]
     clear ew
     ((with_reducible repeat (first|refine Zj (by first|assumption|omega|rfl|exact B_pos (by omega)) ?_|refine Zi (by first|assumption|omega|decide|exact B_not (by omega)) ?_|refine Za (by first|assumption) ?_|dsimp only));first|done|(with_reducible rfl)|simp (disch:=omega) only[w64]|(show False;done))
   ·
    have ht:T g x y < list.length:=by
     by_cases q:T g x y < list.length
     ·
      exact q
     ·
      exact absurd (fun k=>absurd k q) h
    have h:¬ (rd list x+rd u x*rd list y+At g v [x,y])%m=rd list (T g x y):=fun k=>h fun _=>k
    rw[Zv.l1_eq,hat,Option.bind_some,ew]
    clear ew
    ((with_reducible repeat (first|refine Zj (by first|assumption|omega|rfl|exact B_pos (by omega)) ?_|refine Zi (by first|assumption|omega|decide|exact B_not (by omega)) ?_|refine Za (by first|assumption) ?_|dsimp only));first|done|(with_reducible rfl)|simp (disch:=omega) only[w64]|(show False;done))) (fun _=>by(rw[Zv.l1_eq]);((with_reducible repeat (first|refine Zj (by first|assumption|omega|rfl|exact B_pos (by omega)) ?_|refine Zi (by first|assumption|omega|decide|exact B_not (by omega)) ?_|refine Za (by first|assumption) ?_|dsimp only));first|done|(with_reducible rfl)|simp (disch:=omega) only[w64]|(show False;done)))
  refine⟨fun h => ?_,fun h => ?_⟩ <;> rw[Zv.l0_eq] <;> (with_reducible repeat (first|refine Zj (by first|assumption|omega|rfl|exact B_pos (by omega)) ?_|refine Zi (by first|assumption|omega|decide|exact B_not (by omega)) ?_|refine Za (by first|assumption) ?_|dsimp only))
  ·
   exact inner.1 h
  ·
   exact inner.2 h)
 rcases outer with ⟨h1,h2⟩|⟨j,j0,j1,_,h1,_,h2⟩
 ·
  rw[Zb0 (show ConP g m u v list list.length from h1),h2,Zv.l0_eq]
  (with_reducible repeat (first|refine Zj (by first|assumption|omega|rfl|exact B_pos (by omega)) ?_|refine Zi (by first|assumption|omega|decide|exact B_not (by omega)) ?_|refine Za (by first|assumption) ?_|dsimp only))
 ·
  rw[ZbP (show ¬ ConP g m u v list list.length from fun q=>h1 (q j j0 j1))]
  exact h2
theorem Go_ {g:List (List Int)} (hg:Grp g) {m:Int} {u v:List Int} (hm:Mdl g m u) (hc:Co g m 2 v):∀(k:Nat) (list:List Int),AllIn m list→list.length≤g.length→g.length < list.length+k →
  (∃r,Zv.f k g m u 2 v list=some (r,true)∧Ext g m u v list r∧∀r', Ext g m u v list r' → LexLe g.length r r')∨(Zv.f k g m u 2 v list=some ([],false)∧∀r', ¬ Ext g m u v list r'):=by
 have n8:=hg.n8
 have m2:=hm.m2;have m12:=hm.m12
 intro k
 induction k with
 | zero=>intro list _ hl hk;omega
 | succ k ih =>
  intro list ha hl hk
  rw[Zk0 hg hm hc k ha hl]
  by_cases hC:ConP g m u v list list.length
  rotate_left
  ·
   rw[ZbP hC]
   exact .inr ⟨rfl,fun r' hr=>hC (hr.con.pre hl hg (Nat.le_refl _) fun i i0 i1=>Ze4 hr.pre i0 i1)⟩
  rw[Zb0 hC]
  by_cases hN:(list.length:Int)=(g.length:Int)
  ·
   rw[if_pos hN]
   have hN' : list.length=g.length:=by omega
   refine .inl ⟨list,rfl,⟨hN', ha,by rw[←hN'];exact hC,List.take_length⟩,fun r' hr => .inl fun i hi => ?_⟩
   exact Ze4 hr.pre (by omega) (by omega)
  rw[if_neg hN]
  have loop:∀(n:Nat) (c:Int),0≤c→c+n=m→(∀c' : Int,0≤c' → c' < c→∀r', ¬ Ext g m u v (list++[c']) r') →
    (∃r,Zv.l2 k list c g m u 2 v=some (r,true)∧Ext g m u v list r∧∀r', Ext g m u v list r' → LexLe g.length r r')∨(Zv.l2 k list c g m u 2 v=some ([],false)∧∀r', ¬ Ext g m u v list r'):=by
   intro n
   have up1:∀r' , Ext g m u v list r' → Ext g m u v (list++[rd r' (list.length:Int)]) r' ∧ 0≤rd r' (list.length:Int)∧rd r' (list.length:Int) < m:=fun r' hr=>by
    have rl:=hr.len
    obtain⟨b0,b1⟩:=hr.ent (list.length:Int) (by omega) (by omega)
    refine⟨⟨hr.len,hr.ent,hr.con,?_⟩,b0,b1⟩
    rw[List.length_append,List.length_singleton,Zcx (by omega),hr.pre]
   have down:∀c r', Ext g m u v (list++[c]) r' → Ext g m u v list r' ∧ rd r' (list.length:Int)=c:=fun c r' hr=>by
    have hp:=hr.pre
    have rl:=hr.len
    rw[List.length_append,List.length_singleton,Zcx (by omega)]at hp
    obtain⟨h1,h2⟩:=List.append_inj' hp rfl
    exact⟨⟨hr.len,hr.ent,hr.con,h1⟩,by simpa using h2⟩
   induction n with
   | zero =>
    intro c c0 hcm hno
    refine .inr ⟨?_,fun r' hr => ?_⟩
    ·
     rw[Zv.l2_eq]
     ((with_reducible repeat (first|refine Zj (by first|assumption|omega|rfl|exact B_pos (by omega)) ?_|refine Zi (by first|assumption|omega|decide|exact B_not (by omega)) ?_|refine Za (by first|assumption) ?_|dsimp only));first|done|(with_reducible rfl)|simp (disch:=omega) only[w64]|(show False;done))
    ·
     obtain⟨k1,k2,k3⟩:=up1 r' hr
     exact hno _ k2 (by omega) r' k1
   | succ n ihn =>
    intro c c0 hcm hno
    have hO:=Own_ list (by omega)
    have l1:([c]:List Int).length=1:=rfl
    have e1:(list++[c]).length=list.length+1:=by simp
    rcases ih (list++[c]) (ha.append (ZgM c0 (by omega))) (by omega) (by omega)with ⟨r,h1,h2,h3⟩|⟨h1,h2⟩
    ·
     refine .inl ⟨r,?_,(down c r h2).1,fun r' hr => ?_⟩
     ·
      rw[Zv.l2_eq,l1]
      ((with_reducible repeat (first|refine Zj (by first|assumption|omega|rfl|exact B_pos (by omega)) ?_|refine Zi (by first|assumption|omega|decide|exact B_not (by omega)) ?_|refine Za (by first|assumption) ?_|dsimp only));first|done|(with_reducible rfl)|simp (disch:=omega) only[w64]|(show False;done))
     ·
      obtain⟨k1,k2,k3⟩:=up1 r' hr
      have hrc:=(down c r h2).2
      by_cases q:rd r' (list.length:Int)=c
      ·
       rw[q]at k1
       exact h3 r' k1
      ·
       have hge:c < rd r' (list.length:Int):=by
        by_cases q2:rd r' (list.length:Int) < c
        ·
         exact absurd k1 (hno _ k2 q2 r')
        ·
         omega
       refine .inr ⟨list.length,by omega,fun i hi => ?_,by omega⟩
       rw[←Ze4 (down c r h2).1.pre (i:=(i:Int)) (by omega) (by omega),←Ze4 hr.pre (i:=(i:Int)) (by omega) (by omega)]
    ·
     have st:Zv.l2 k list c g m u 2 v=Zv.l2 k list (c+1) g m u 2 v:=by
      rw[Zv.l2_eq,l1,w64 (x:=c+1) (by omega) (by omega)]
      ((with_reducible repeat (first|refine Zj (by first|assumption|omega|rfl|exact B_pos (by omega)) ?_|refine Zi (by first|assumption|omega|decide|exact B_not (by omega)) ?_|refine Za (by first|assumption) ?_|dsimp only));first|done|(with_reducible rfl)|simp (disch:=omega) only[w64]|(show False;done))
     rw[st]
     refine ihn (c+1) (by omega) (by omega) fun c' h0' h1' => ?_
     by_cases q:c' = c
     ·
      rw[q];exact h2
     ·
      exact hno c' h0' (by omega)
  exact loop m.toNat 0 (by omega) (by omega) fun c' h0 h1=>by omega
theorem Zli {g:List (List Int)} (z:Int):idx g [z]=z - 1:=by simp[idx]
theorem ZiR {g:List (List Int)} {h:List Int} {z:Int} (z0:0≤z):At g h [z]=rd (0 :: h) z:=by
 unfold At
 by_cases e:z=0
 ·
  rw[ZbP (fun q=>q 0 (by omega) (by simp) (by simp[rd,e]))]
  simp[rd,e]
 ·
  rw[Zb0 (show Zci [z]from fun j j0 j1=>by
   have:j=0:=by simp at j1;omega
   subst this
   exact e),Zli]
  obtain⟨n,rfl⟩:=Int.eq_ofNat_of_zero_le z0
  cases n with
  | zero=>exact absurd rfl e
  | succ n =>
   simp only[rd]
   rw[show(((n+1:Nat):Int) - 1).toNat=n by omega,Int.toNat_natCast]
   rfl
theorem ZlJ {g:List (List Int)} {u h:List Int} {x y:Int}:Bd g u h [x,y] 1=rd u x*At g h [y] - At g h [T g x y]+At g h [x]:=by
 simp only[Bd,bsum,join2,List.take_zero,List.nil_append,List.drop_succ_cons,List.drop_zero,List.take_succ_cons]
 have e0:rd [x,y] 0=x:=rfl
 have e1:rd [x,y] ((0+1:Nat):Int)=y:=rfl
 have e2:rd [x,y] ((0:Nat):Int)=x:=rfl
 rw[e0,e1,e2,List.append_nil]
 omega
theorem ZkG {g:List (List Int)} {i:Int}:∃x y,lst ((g.length:Int) - 1) 2 i=[x,y]:=⟨_,_,rfl⟩
theorem Zjh {g:List (List Int)} (hg:Grp g) {m:Int} {u v h w:List Int} (hm:Mdl g m u) (hc:Co g m 2 v) (hl:h.length=nB g 1) (ha:AllIn m h) (hw:w.length=nB g 2) (hwv:∀i,i < nB g 2→m∣rd w (i:Int)+rd v (i:Int)) :
  ConP g m u v (0 :: h) g.length↔allM g m u 1 (V (w++h)):=by
 have m2:=hm.m2;have m12:=hm.m12;have n1:=hg.n1;have n8:=hg.n8
 obtain⟨c1,c2⟩:=nA_bd hg (e:=2) (by omega)
 obtain⟨b1,b2⟩:=nA_bd hg (e:=1) (by omega)
 have hN1:(nB g 1:Int)=g.length - 1:=by rw[b2];show((g.length:Int) - 1) ^ 1=_;rw[Int.pow_succ,Int.pow_zero];omega
 have hal:AllIn m (0 :: h):=ZbX fun z hz=>by
  rcases List.mem_cons.1 hz with rfl|hz
  ·
   omega
  ·
   exact ha.mem hz
 have hrl:((0 :: h).length:Int)=g.length:=by rw[List.length_cons];omega
 rw[Zkf hg m2 (by omega) hw]
 have key:∀x y:Int,0≤x→x < g.length→0≤y→y < g.length→((rd (0 :: h) x+rd u x*rd (0 :: h) y+At g v [x,y])%m=rd (0 :: h) (T g x y)↔m∣At g v [x,y]+Bd g u h [x,y] 1):=fun x y x0 x1 y0 y1=>by
  obtain⟨t0,t1⟩:=hg.ent x y x0 x1 y0 y1
  obtain⟨r0,r1⟩:=hal (T g x y) t0 (by omega)
  rw[ZlJ,ZiR x0,ZiR y0,ZiR t0]
  constructor
  ·
   intro q
   have:=Int.mul_ediv_add_emod (rd (0 :: h) x+rd u x*rd (0 :: h) y+At g v [x,y]) m
   rw[q]at this
   exact⟨(rd (0 :: h) x+rd u x*rd (0 :: h) y+At g v [x,y]) / m,by omega⟩
  ·
   rintro⟨q,hq⟩
   rw[show rd (0 :: h) x+rd u x*rd (0 :: h) y+At g v [x,y]=rd (0 :: h) (T g x y)+m*q by omega,Int.add_mul_emod_self_left,Int.emod_eq_of_lt r0 r1]
 have hval:∀i:Nat,i < nB g 2→∃x y:Int,1≤x∧x < g.length∧1≤y∧y < g.length∧lst ((g.length:Int) - 1) 2 (i:Int)=[x,y]∧At g v [x,y]=rd v (i:Int):=fun i hi=>by
  obtain⟨x,y,e⟩:=ZkG (g:=g) (i:=(i:Int))
  obtain⟨hx,hn⟩:=ZjA hg (e:=1) (by omega) hi
  have hL:lst ((g.length:Int) - 1) (1+1) (i:Int)=[x,y]:=e
  rw[hL]at hx hn
  have hx0:=hx.mem (show x∈[x,y]by simp)
  have hy0:=hx.mem (show y∈[x,y]by simp)
  have nx:¬ x=0:=hn 0 (by omega) (by simp)
  have ny:¬ y=0:=hn 1 (by omega) (by simp)
  refine⟨x,y,by omega,by omega,by omega,by omega,e,?_⟩
  have hi2:(i:Int) < ((g.length:Int) - 1) ^ 2:=by
   have:cells g 2=((g.length:Int) - 1) ^ 2:=rfl
   have c2' : ((nB g 2:Nat):Int)=cells g 2:=c2
   omega
  have:=Zlh (g:=g) 2 (i:Int) (by omega) hi2 (by omega)
  rw[e]at this
  unfold At
  rw[Zb0 hn,this]
 constructor
 ·
  intro hC i hi
  obtain⟨x,y,x0,x1,y0,y1,e,hv⟩:=hval i hi
  have h1:=(key x y (by omega) x1 (by omega) y1).1 (hC x (by omega) x1 y (by omega) y1 (hg.ent x y (by omega) x1 (by omega) y1).2)
  rw[hv]at h1
  have e2:bdV g u h 1 i=Bd g u h [x,y] 1:=by show Bd g u h (lst ((g.length:Int) - 1) 2 (i:Int)) 1=_;rw[e]
  rw[e2]
  have:=Int.dvd_sub (hwv i hi) h1
  rwa[show ∀a b c:Int,a+b - (b+c)=a - c from fun a b c=>by omega]at this
 ·
  intro hB x x0 x1 y y0 y1 _
  have one:=hm.one hg
  by_cases hx:x=0
  ·
   subst hx
   have z:At g v [0,y]=0:=by unfold At;rw[ZbP fun q=>q 0 (by omega) (by simp) rfl]
   obtain⟨r0,r1⟩:=hal y y0 (by omega)
   rw[z,hg.one y y0 y1,one,show rd (0 :: h) (0:Int)=0 from rfl,Int.one_mul,Int.zero_add,Int.add_zero,Int.emod_eq_of_lt r0 r1]
  by_cases hy:y=0
  ·
   subst hy
   have z:At g v [x,0]=0:=by unfold At;rw[ZbP fun q=>q 1 (by omega) (by simp) rfl]
   obtain⟨r0,r1⟩:=hal x x0 (by omega)
   rw[z,hg.one' x x0 x1,show rd (0 :: h) (0:Int)=0 from rfl,Int.mul_zero,Int.add_zero,Int.add_zero,Int.emod_eq_of_lt r0 r1]
  refine(key x y x0 x1 y0 y1).2 ?_
  have hnu:Zci [x,y]:=fun j j0 j1=>by
   have:j=0∨j=1:=by simp at j1;omega
   rcases this with rfl|rfl
   ·
    exact hx
   ·
    exact hy
  obtain⟨i0,i1⟩:=Zjq hg (e:=2) (by omega) (ZcE x0 x1 y0 y1) rfl hnu
  have hL:=Zjz (g:=g) 2 [x,y] rfl (fun z hz=>by
   simp only[List.mem_cons,List.not_mem_nil,or_false]at hz
   rcases hz with rfl|rfl <;> omega)
  have h2:=hB (idx g [x,y]).toNat i1
  have e2:bdV g u h 1 (idx g [x,y]).toNat=Bd g u h [x,y] 1:=by
   show Bd g u h (lst ((g.length:Int) - 1) 2 (((idx g [x,y]).toNat:Nat):Int)) 1=_
   rw[Int.toNat_of_nonneg i0,hL]
  have e3:At g v [x,y]=rd v ((((idx g [x,y]).toNat:Nat)):Int):=by
   unfold At
   rw[Zb0 hnu,Int.toNat_of_nonneg i0]
  rw[e2]at h2
  rw[e3]
  have:=Int.dvd_sub (hwv _ i1) h2
  rwa[show ∀a b c:Int,a+b - (a - c)=b+c from fun a b c=>by omega]at this
end Go.Proofs.YthmcpmnhdbeahaaGreat.V
set_option maxHeartbeats 2000000
namespace Go.Proofs.YthmcpmnhdbeahaaGreat.V
open Go.RowKit Go.Proofs.YthmcpmnhdbeahaaGreat.D Go.Proofs.YthmcpmnhdbeahaaGreat.P
theorem section_ {g:List (List Int)} (hg:Grp g) {m:Int} {u v:List Int} (hm:Mdl g m u) (hc:Co g m 2 v) :
  (∃y,Za1.f g m u 2 v=some (1,y,true)∧y.length=nB g 1∧Zv.f fuel g m u 2 v []=some (0 :: y,true)∧Ext g m u v [] (0 :: y)∧Sp m (nB g 2) (bdG g m u 2) (V v)) ∨
  (Za1.f g m u 2 v=some (0,[],false)∧Zv.f fuel g m u 2 v []=some ([],false)∧(∀r,¬ Ext g m u v [] r)∧¬ Sp m (nB g 2) (bdG g m u 2) (V v)):=by
 have m2:=hm.m2;have m12:=hm.m12;have n1:=hg.n1;have n8:=hg.n8
 obtain⟨c1,c2⟩:=nA_bd hg (e:=2) (by omega)
 obtain⟨b1,b2⟩:=nA_bd hg (e:=1) (by omega)
 have hN1:(nB g 1:Int)=g.length - 1:=by rw[b2];show((g.length:Int) - 1) ^ 1=_;rw[Int.pow_succ,Int.pow_zero];omega
 have vl:v.length=nB g 2:=hc.nB hg (k:=2)
 have hz:=zero_ hg (n:=2) (by omega)
 have hz:Zbm.f g 2=some (2,List.replicate (nB g 2) 0):=hz
 have zl:(List.replicate (nB g 2) (0:Int)).length=nB g 2:=List.length_replicate
 have ad:=ZlI m2 m12 2 2 (v:=List.replicate (nB g 2) 0) (w:=v) (by omega) (Ze5 (by omega) _) hc.2.2 (by omega) (c := -1) (by omega) (by omega)
 obtain⟨w,hw⟩:∃w,w=addL m (List.replicate (nB g 2) 0) v (-1):=⟨_,rfl⟩
 rw[←hw]at ad
 have wl:w.length=nB g 2:=by rw[hw,ZcD,zl]
 have hcw:Co g m ((1+1:Nat):Int) w:=⟨hc.1,by have:=hc.2.1;rw[wl,←vl];exact this,by rw[hw];exact Zk8 (by omega) _ _ _⟩
 have hwv:∀i,i < nB g 2→m∣rd w (i:Int)+rd v (i:Int):=fun i hi=>by
  rw[hw,ZiT (by omega),Zb5]
  have:=Int.mul_ediv_add_emod (0 + -1*rd v (i:Int)) m
  exact⟨-((0 + -1*rd v (i:Int)) / m),by rw[Int.mul_neg];omega⟩
 obtain⟨q,_,hq⟩:=Zi5 hg hm (n:=1) (by omega)
 have hsw:Sp m (nB g 2) (bdG g m u 2) (V w)↔Sp m (nB g 2) (bdG g m u 2) (V v):=⟨fun h => .alike (h.mul (-1)) fun i hi=>by
  obtain⟨k,hk⟩:=hwv i hi
  exact⟨-k,by show -1*rd w (i:Int) - rd v (i:Int)=_;rw[Int.mul_neg];omega⟩,fun h => .alike (h.mul (-1)) fun i hi=>by
  obtain⟨k,hk⟩:=hwv i hi
  exact⟨-k,by show -1*rd v (i:Int) - rd w (i:Int)=_;rw[Int.mul_neg];omega⟩⟩
 have hGo:=Go_ hg hm hc 64 [] (fun i i0 i1=>by simp at i1;omega) (by simp) (by simp;omega)
 rw[←Zjn]at hGo
 have full:∀r,Ext g m u v [] r→∃h,r=0 :: h∧h.length=nB g 1∧AllIn m h∧allM g m u 1 (V (w++h)):=fun r hr=>by
  have rl:=hr.len
  cases r with
  | nil=>simp at rl;omega
  | cons a h =>
   have h0:=hr.con 0 (by omega) (by omega) 0 (by omega) (by omega) (by rw[hg.one 0 (by omega) (by omega)];omega)
   obtain⟨a0,a1⟩:=hr.ent 0 (by omega) (by omega)
   have ea:rd (a :: h) 0=a:=rfl
   have zA:At g v [0,0]=0:=by unfold At;rw[ZbP fun q=>q 0 (by omega) (by simp) rfl]
   rw[zA,hg.one 0 (by omega) (by omega),hm.one hg,Int.one_mul,Int.add_zero,ea]at h0
   rw[ea]at a0 a1
   have ha0:a=0:=by
    by_cases q:a+a < m
    ·
     rw[Int.emod_eq_of_lt (by omega) q]at h0;omega
    ·
     rw[show a+a=(a+a - m)+m by omega,Int.add_emod_right,Int.emod_eq_of_lt (by omega) (by omega)]at h0;omega
   subst ha0
   have hl:h.length=nB g 1:=by rw[List.length_cons]at rl;omega
   have ha:AllIn m h:=ZbX fun x hx=>hr.ent.mem (List.mem_cons_of_mem _ hx)
   exact⟨h,rfl,hl,ha,(Zjh hg hm hc hl ha wl hwv).1 hr.con⟩
 have back:∀h,h.length=nB g 1→AllIn m h→allM g m u 1 (V (w++h))→Ext g m u v [] (0 :: h):=fun h hl ha hM =>
  ⟨by rw[List.length_cons];omega,ZbX fun x hx=>by
   rcases List.mem_cons.1 hx with rfl|hx
   ·
    omega
   ·
    exact ha.mem hx,(Zjh hg hm hc hl ha wl hwv).2 hM,rfl⟩
 have hsec:∀{a b c},ZF.f g m u 2 w=some (a,b,c)→Za1.f g m u 2 v=some (a,b,c):=fun {a b c} h=>by
  rw[Za1.f_eq]
  (with_reducible repeat (first|refine Zj (by first|assumption|omega|rfl|exact B_pos (by omega)) ?_|refine Zi (by first|assumption|omega|decide|exact B_not (by omega)) ?_|refine Za (by first|assumption) ?_|dsimp only))
  simp
 rcases leastBounded_ hg hm hcw with ⟨hsp,y,i1,i2⟩|⟨hnb,i1⟩
 ·
  have hy:=back y i2.len i2.ent i2.mem
  rcases hGo with ⟨r,g1,g2,g3⟩|⟨_,g2⟩
  rotate_left
  ·
   exact absurd hy (g2 _)
  obtain⟨h,rfl,hl,ha,hM⟩:=full r g2
  have l1:=i2.first (by omega) wl hq hl ha hM
  have l2:=g3 _ hy
  have l1' : LexLe g.length (0 :: y) (0 :: h):=by
   rcases l1 with l1|⟨j,j1,j2,j3⟩
   ·
    refine .inl fun i hi => ?_
    cases i with
    | zero=>rfl
    | succ i=>exact l1 i (by omega)
   ·
    refine .inr ⟨j+1,by omega,fun i hi => ?_,j3⟩
    cases i with
    | zero=>rfl
    | succ i=>exact j2 i (by omega)
  have e:(0 :: h)=(0 :: y):=by
   refine Zji (by rw[List.length_cons,List.length_cons,hl,i2.len]) fun i i0 i1 => ?_
   obtain⟨n,rfl⟩:=Int.eq_ofNat_of_zero_le i0
   rw[List.length_cons]at i1
   exact l2.anti l1' n (by omega)
  rw[e]at g1
  exact .inl ⟨y,hsec i1,i2.len,g1,hy,hsw.1 hsp⟩
 ·
  rcases hGo with ⟨r,g1,g2,g3⟩|⟨g1,g2⟩
  ·
   obtain⟨h,rfl,hl,ha,hM⟩:=full r g2
   refine absurd ?_ hnb
   obtain⟨p,_,h2⟩:=Zgd hg hm (n:=1) (by omega)
   refine(ZgQ (e:=1) (by omega) (h2.lead (by omega)) (V w)).1 ⟨_,hM,fun i hi=>Zbz ?_⟩
   exact ZbF (by rw[wl];exact hi)
  ·
   exact .inr ⟨hsec i1,g1,g2,fun h=>hnb (hsw.2 h)⟩
theorem Zhx (g:List (List Int)) (m:Int) (u:List Int) (d:Int) (v:List Int) (hl:g.length≤maxLen) (hr:∀r∈g,r.length≤maxLen) (hu:u.length≤maxLen) (hv:v.length≤maxLen) :
  ∃(b:Bool) (c:Int),Zbo.f g m u d v=some (b,c)∧Zbn.f g m u d v=some (b,c)∧ZM.f g m u d v 64=some c∧(¬ c=0→b=false)∧(c=0→(b=true↔∃r,Ext g m u v [] r)∧(b=true↔Sp m (nB g 2) (bdG g m u 2) (V v))):=by
 rw[Zbo.f_eq,Zbn.f_eq]
 rcases factor g hl hr m u hu d v hv 64 with ⟨rfl,hg,hm,hc,_,_,cS,cI⟩|⟨c,c0,cS,cI⟩
 rotate_left
 ·
  exact⟨false,c,by((with_reducible repeat (first|refine Zj (by first|assumption|omega|rfl|exact B_pos (by omega)) ?_|refine Zi (by first|assumption|omega|decide|exact B_not (by omega)) ?_|refine Za (by first|assumption) ?_|dsimp only));first|done|(with_reducible rfl)|simp (disch:=omega) only[w64]|(show False;done)),by((with_reducible repeat (first|refine Zj (by first|assumption|omega|rfl|exact B_pos (by omega)) ?_|refine Zi (by first|assumption|omega|decide|exact B_not (by omega)) ?_|refine Za (by first|assumption) ?_|dsimp only));first|done|(with_reducible rfl)|simp (disch:=omega) only[w64]|(show False;done)),cI,fun _=>rfl,fun h=>absurd h c0⟩
 rcases section_ hg hm hc with ⟨y,h1,_,h2,h3,h4⟩|⟨h1,h2,h3,h4⟩
 ·
  exact⟨true,0,by(with_reducible repeat (first|refine Zj (by first|assumption|omega|rfl|exact B_pos (by omega)) ?_|refine Zi (by first|assumption|omega|decide|exact B_not (by omega)) ?_|refine Za (by first|assumption) ?_|dsimp only));simp,by(with_reducible repeat (first|refine Zj (by first|assumption|omega|rfl|exact B_pos (by omega)) ?_|refine Zi (by first|assumption|omega|decide|exact B_not (by omega)) ?_|refine Za (by first|assumption) ?_|dsimp only));simp,cI,fun h=>absurd rfl h,fun _=>⟨⟨fun _=>⟨_,h3⟩,fun _=>rfl⟩,fun _=>h4,fun _=>rfl⟩⟩
 ·
  exact⟨false,0,by(with_reducible repeat (first|refine Zj (by first|assumption|omega|rfl|exact B_pos (by omega)) ?_|refine Zi (by first|assumption|omega|decide|exact B_not (by omega)) ?_|refine Za (by first|assumption) ?_|dsimp only));simp,by(with_reducible repeat (first|refine Zj (by first|assumption|omega|rfl|exact B_pos (by omega)) ?_|refine Zi (by first|assumption|omega|decide|exact B_not (by omega)) ?_|refine Za (by first|assumption) ?_|dsimp only));simp,cI,fun h=>absurd rfl h,fun _=>⟨⟨fun h=>by simp at h,fun⟨r,h⟩=>absurd h (h3 r)⟩,fun h=>by simp at h,fun h=>absurd h h4⟩⟩
theorem Zev (g:List (List Int)) (m:Int) (u:List Int) (d:Int) (v:List Int) (hl:g.length≤maxLen) (hr:∀r∈g,r.length≤maxLen) (hu:u.length≤maxLen) (hv:v.length≤maxLen) :
  ∃(R:List Int) (c:Int),Zau.f g m u d v=some (R,c)∧Zat.f g m u d v=some (R,c)∧R.length≤1048576∧∃c0,ZM.f g m u d v 64=some c0∧(¬ c0=0→c=c0∧R=[])∧(c0=0→(c=0∧Ext g m u v [] R)∨(c=5∧R=[]∧∀r,¬ Ext g m u v [] r)):=by
 rw[Zau.f_eq,Zat.f_eq]
 rcases factor g hl hr m u hu d v hv 64 with ⟨rfl,hg,hm,hc,_,_,cS,cI⟩|⟨c,c0,cS,cI⟩
 rotate_left
 ·
  exact⟨[],c,by((with_reducible repeat (first|refine Zj (by first|assumption|omega|rfl|exact B_pos (by omega)) ?_|refine Zi (by first|assumption|omega|decide|exact B_not (by omega)) ?_|refine Za (by first|assumption) ?_|dsimp only));first|done|(with_reducible rfl)|simp (disch:=omega) only[w64]|(show False;done)),by((with_reducible repeat (first|refine Zj (by first|assumption|omega|rfl|exact B_pos (by omega)) ?_|refine Zi (by first|assumption|omega|decide|exact B_not (by omega)) ?_|refine Za (by first|assumption) ?_|dsimp only));first|done|(with_reducible rfl)|simp (disch:=omega) only[w64]|(show False;done)),by simp,c,cI,fun _=>⟨rfl,rfl⟩,fun h=>absurd h c0⟩
 obtain⟨b1,b2⟩:=nA_bd hg (e:=1) (by omega)
 rcases section_ hg hm hc with ⟨y,h1,yl,h2,h3,_⟩|⟨h1,h2,h3,_⟩
 ·
  have hcat:=concat2 (a:=[0]) (b:=y) (by simp) (by omega)
  exact⟨0 :: y,0,by((with_reducible repeat (first|refine Zj (by first|assumption|omega|rfl|exact B_pos (by omega)) ?_|refine Zi (by first|assumption|omega|decide|exact B_not (by omega)) ?_|refine Za (by first|assumption) ?_|dsimp only));first|done|(with_reducible rfl)|simp (disch:=omega) only[w64]|(show False;done)),by(with_reducible repeat (first|refine Zj (by first|assumption|omega|rfl|exact B_pos (by omega)) ?_|refine Zi (by first|assumption|omega|decide|exact B_not (by omega)) ?_|refine Za (by first|assumption) ?_|dsimp only));rfl,by rw[List.length_cons];omega,0,cI,fun h=>absurd rfl h,fun _ => .inl ⟨rfl,h3⟩⟩
 ·
  exact⟨[],5,by((with_reducible repeat (first|refine Zj (by first|assumption|omega|rfl|exact B_pos (by omega)) ?_|refine Zi (by first|assumption|omega|decide|exact B_not (by omega)) ?_|refine Za (by first|assumption) ?_|dsimp only));first|done|(with_reducible rfl)|simp (disch:=omega) only[w64]|(show False;done)),by((with_reducible repeat (first|refine Zj (by first|assumption|omega|rfl|exact B_pos (by omega)) ?_|refine Zi (by first|assumption|omega|decide|exact B_not (by omega)) ?_|refine Za (by first|assumption) ?_|dsimp only));first|done|(with_reducible rfl)|simp (disch:=omega) only[w64]|(show False;done)),by simp,0,cI,fun h=>absurd rfl h,fun _ => .inr ⟨rfl,rfl,h3⟩⟩
end Go.Proofs.YthmcpmnhdbeahaaGreat.V
namespace Go.Proofs.YthmcpmnhdbeahaaGreat.V
open Go.RowKit Go.Proofs.YthmcpmnhdbeahaaGreat.D Go.Proofs.YthmcpmnhdbeahaaGreat.P
structure Sq (e:List (List Int)) (N:Nat):Prop where
 len:e.length=N
 row:∀a:Int,0≤a→a < N→(row e a).length=N
 ent:∀a b:Int,0≤a→a < N→0≤b→b < N→0≤T e a b∧T e a b < N
theorem Sq.times2 {e:List (List Int)} {N:Nat} (h:Sq e N) (one:∀a:Int,0≤a→a < N→T e 0 a=a) {x y:Int} (x0:0≤x) (x1:x < N) (y0:0≤y) (y1:y < N):Zo.f e [x,y]=some (T e x y):=by
 have hl:=h.len
 have h1:=one x x0 x1
 have r0:=h.row 0 (by omega) (by omega)
 have rx:=h.row x x0 x1
 have q0:rd [x,y] 0=x:=rfl
 have q1:rd [x,y] 1=y:=rfl
 have w1:wrapI (0+1)=1:=w64 (by omega) (by omega)
 have w2:wrapI (1+1)=2:=w64 (by omega) (by omega)
 have ll:(([x,y]:List Int).length:Int)=2:=rfl
 rw[Zo.f_eq,ll,Zo.l0_eq,ll,q0,w1,h1]
 (with_reducible repeat (first|refine Zj (by first|assumption|omega|rfl|exact B_pos (by omega)) ?_|refine Zi (by first|assumption|omega|decide|exact B_not (by omega)) ?_|refine Za (by first|assumption) ?_|dsimp only))
 rw[Zo.l0_eq,ll,q1,w2]
 (with_reducible repeat (first|refine Zj (by first|assumption|omega|rfl|exact B_pos (by omega)) ?_|refine Zi (by first|assumption|omega|decide|exact B_not (by omega)) ?_|refine Za (by first|assumption) ?_|dsimp only))
 rw[Zo.l0_eq]
 ((with_reducible repeat (first|refine Zj (by first|assumption|omega|rfl|exact B_pos (by omega)) ?_|refine Zi (by first|assumption|omega|decide|exact B_not (by omega)) ?_|refine Za (by first|assumption) ?_|dsimp only));first|done|(with_reducible rfl)|simp (disch:=omega) only[w64]|(show False;done))
theorem ext_T {g:List (List Int)} {m:Int} {u v:List Int} {N:Nat} {p q:Nat} (hp:p < N) (hq:q < N):row (extT g m u v N) (p:Int)=((List.range N).map fun q:Nat=>ext g m u v p q)∧T (extT g m u v N) (p:Int) (q:Int)=ext g m u v p q:=by
 have h1:row (extT g m u v N) (p:Int)=((List.range N).map fun q:Nat=>ext g m u v p q):=by
  rw[ZdG (by rw[(Zea g m u v N).1];exact hp)]
  simp[extT]
 refine⟨h1,?_⟩
 show rd (row (extT g m u v N) (p:Int)) (q:Int)=_
 rw[h1,Zb3 (by rw[List.length_map,List.length_range];exact hq)]
 simp
theorem Zjj {g:List (List Int)} (hg:Grp g) {m:Int} {u v:List Int} (hm:Mdl g m u) (hc:Co g m 2 v) {N:Nat} (hN:(N:Int)=g.length*m):Sq (extT g m u v N) N∧(∀a:Int,0≤a→a < N→T (extT g m u v N) 0 a=a)∧0 < N:=by
 have m2:=hm.m2;have n1:=hg.n1;have m12:=hm.m12
 have nm:m≤g.length*m:=by
  have:=Int.mul_le_mul_of_nonneg_right (show(1:Int)≤g.length by omega) (show 0≤m by omega)
  omega
 refine⟨⟨(Zea g m u v N).1,fun a a0 a1 => ?_,fun a b a0 a1 b0 b1 => ?_⟩,fun a a0 a1 => ?_,by omega⟩
 ·
  obtain⟨p,rfl⟩:=Int.eq_ofNat_of_zero_le a0
  rw[(ext_T (p:=p) (q:=p) (by omega) (by omega)).1,List.length_map,List.length_range]
 ·
  obtain⟨p,rfl⟩:=Int.eq_ofNat_of_zero_le a0
  obtain⟨q,rfl⟩:=Int.eq_ofNat_of_zero_le b0
  rw[(ext_T (by omega) (by omega)).2,hN]
  exact(ext_w hg hm hc (p:=p) (q:=q) (by omega) (by omega) (by omega) (by omega)).2.2.2
 ·
  obtain⟨q,rfl⟩:=Int.eq_ofNat_of_zero_le a0
  have:=(ext_T (g:=g) (m:=m) (u:=u) (v:=v) (p:=0) (q:=q) (N:=N) (by omega) (by omega)).2
  rw[Int.natCast_zero]at this
  rw[this]
  obtain⟨y0,y1,b0,b1⟩:=parts (show 0 < m by omega) (show 0≤(q:Int)by omega) (n:=g.length) (by omega)
  have hu:=hm.one hg
  have hAt:At g v [0,(q:Int) / m]=0:=by
   unfold At
   rw[ZbP]
   intro h
   exact h 0 (by omega) (by simp) rfl
  unfold ext
  rw[Int.zero_ediv,Int.zero_emod,hg.one _ y0 y1,hu,hAt,Int.zero_add,Int.one_mul,Int.add_zero,Int.emod_eq_of_lt b0 b1]
  have:=Int.mul_ediv_add_emod (q:Int) m
  omega
theorem php:∀(N:Nat) (f:Nat→Nat),(∀i,i≤N→f i < N)→∃i j,i < j∧j≤N∧f i=f j:=by
 intro N
 induction N with
 | zero=>intro f h;exact absurd (h 0 (Nat.le_refl 0)) (by omega)
 | succ N ih =>
  intro f h
  by_cases hv:∃i,i≤N∧f i=f (N+1)
  ·
   obtain⟨i,hi,e⟩:=hv
   exact⟨i,N+1,by omega,Nat.le_refl _,e⟩
  ·
   have hne:∀i,i≤N→f i≠f (N+1):=fun i hi e=>hv ⟨i,hi,e⟩
   have hN:=h (N+1) (Nat.le_refl _)
   obtain⟨i,j,hij,hj,e⟩:=ih (fun i=>if f i > f (N+1)then f i - 1 else f i) (fun i hi=>by
    have h1:=h i (by omega)
    have h2:=hne i hi
    split <;> omega)
   refine⟨i,j,hij,by omega,?_⟩
   have h1:=hne i (by omega)
   have h2:=hne j (by omega)
   split at e <;> split at e <;> omega
def seq (f:Int→Int) (x:Int):Nat→Int
 | 0=>x
 | n+1=>f (seq f x n)
theorem ZeT {f:Int→Int} {N:Nat} (hf:∀x:Int,0≤x→x < N→0≤f x∧f x < N) {x:Int} (h0:0≤x) (h1:x < N):∀n,0≤seq f x n∧seq f x n < N
 | 0=>⟨h0,h1⟩
 | n+1=>hf _ (ZeT hf h0 h1 n).1 (ZeT hf h0 h1 n).2
theorem Ziw {f:Int→Int} {N:Nat} (hf:∀x:Int,0≤x→x < N→0≤f x∧f x < N) (hi:∀x y:Int,0≤x→x < N→0≤y→y < N→f x=f y→x=y) {x:Int} (h0:0≤x) (h1:x < N) :
  ∃k,k≤N∧1≤k∧seq f x k=x∧∀j,1≤j→j < k→seq f x j≠x:=by
 obtain⟨i,j,hij,hj,e⟩:=php N (fun n=>(seq f x n).toNat) (fun i _=>by have:=ZeT hf h0 h1 i;omega)
 have back:∀i j,i < j→seq f x i=seq f x j→seq f x (j - i)=x:=by
  intro i
  induction i with
  | zero=>intro j _ e;simpa [seq] using e.symm
  | succ i ih =>
   intro j hj e
   obtain⟨j,rfl⟩:∃m,j=m+1:=⟨j - 1,by omega⟩
   have a:=ZeT hf h0 h1 i
   have b:=ZeT hf h0 h1 j
   have:=ih j (by omega) (hi _ _ a.1 a.2 b.1 b.2 e)
   rwa[show j+1 - (i+1)=j - i by omega]
 have a:=ZeT hf h0 h1 i
 have b:=ZeT hf h0 h1 j
 have e' : seq f x i=seq f x j:=by omega
 have hk:=back i j hij e'
 have least:∀d,1≤d→seq f x d=x→∃k,k≤d∧1≤k∧seq f x k=x∧∀j,1≤j→j < k→seq f x j≠x:=by
  intro d
  induction d using Nat.strongRecOn with
  | _ d ih =>
   intro d1 hd
   by_cases h:∃j,1≤j∧j < d∧seq f x j=x
   ·
    obtain⟨j,j1,j2,j3⟩:=h
    obtain⟨k,k1,k2⟩:=ih j j2 j1 j3
    exact⟨k,by omega,k2⟩
   ·
    exact⟨d,Nat.le_refl _,d1,hd,fun j j1 j2 j3=>h ⟨j,j1,j2,j3⟩⟩
 obtain⟨k,k1,k2⟩:=least (j - i) (by omega) hk
 exact⟨k,by omega,k2⟩
theorem Grp.cancel_right {g:List (List Int)} (hg:Grp g) {a b c:Int} (a0:0≤a) (a1:a < g.length) (b0:0≤b) (b1:b < g.length) (c0:0≤c) (c1:c < g.length) (h:T g a c=T g b c):a=b:=by
 obtain⟨d,d0,d1,hd⟩:=hg.inv c c0 c1
 have e1:=hg.assoc a c d a0 a1 c0 c1 d0 d1
 have e2:=hg.assoc b c d b0 b1 c0 c1 d0 d1
 rw[hd,hg.one' a a0 a1]at e1
 rw[hd,hg.one' b b0 b1]at e2
 rw[←e1,←e2,h]
theorem Zlf {g:List (List Int)} {m:Int} {u v:List Int} (hg:Grp g) (hm:Mdl g m u) {p p' q:Int} (p0:0≤p) (p1:p < g.length*m) (p0' : 0≤p') (p1' : p' < g.length*m) (q0:0≤q) (q1:q < g.length*m) (h:ext g m u v p q=ext g m u v p' q):p=p' := by
 have m2:=hm.m2
 obtain⟨x0,x1,r0,r1⟩:=parts (show 0 < m by omega) p0 p1
 obtain⟨x0', x1', r0', r1'⟩:=parts (show 0 < m by omega) p0' p1'
 obtain⟨y0,y1,s0,s1⟩:=parts (show 0 < m by omega) q0 q1
 unfold ext at h
 have a0:=Int.emod_nonneg (p%m+rd u (p / m)*(q%m)+At g v [p / m,q / m]) (show m≠0 by omega)
 have a1:=Int.emod_lt_of_pos (p%m+rd u (p / m)*(q%m)+At g v [p / m,q / m]) (show 0 < m by omega)
 have b0:=Int.emod_nonneg (p' % m+rd u (p' / m)*(q%m)+At g v [p' / m,q / m]) (show m≠0 by omega)
 have b1:=Int.emod_lt_of_pos (p' % m+rd u (p' / m)*(q%m)+At g v [p' / m,q / m]) (show 0 < m by omega)
 have split:∀A B a b:Int,0≤a→a < m→0≤b→b < m→m*A+a=m*B+b→A=B∧a=b:=by
  intro A B a b a0 a1 b0 b1 e
  have h1:(m*A+a) / m=A:=by rw[Int.mul_add_ediv_left _ _ (by omega),Int.ediv_eq_zero_of_lt a0 a1,Int.add_zero]
  have h2:(m*B+b) / m=B:=by rw[Int.mul_add_ediv_left _ _ (by omega),Int.ediv_eq_zero_of_lt b0 b1,Int.add_zero]
  have hAB:A=B:=by rw[←h1,←h2,e]
  subst hAB
  exact⟨rfl,by omega⟩
 obtain⟨e1,e2⟩:=split _ _ _ _ a0 a1 b0 b1 h
 have ex:p / m=p' / m:=hg.cancel_right x0 x1 x0' x1' y0 y1 e1
 rw[ex]at e2
 have er:p%m=p' % m:=by
  obtain⟨C,hC⟩:∃C,C=rd u (p' / m)*(q%m)+At g v [p' / m,q / m]:=⟨_,rfl⟩
  rw[Int.add_assoc,←hC,Int.add_assoc,←hC]at e2
  have d1:(p%m+C - (p' % m+C))%m=0:=by
   rw[Int.sub_emod,e2,Int.sub_self,Int.zero_emod]
  rw[show p%m+C - (p' % m+C)=p%m - p' % m by omega]at d1
  obtain⟨c,hc⟩:=Int.dvd_of_emod_eq_zero d1
  have:c=0:=by
   have l1 : -m < m*c:=by omega
   have l2:m*c < m:=by omega
   have : -1 < c:=by
    refine Int.lt_of_mul_lt_mul_left (a:=m) ?_ (by omega)
    omega
   have:c < 1:=by
    refine Int.lt_of_mul_lt_mul_left (a:=m) ?_ (by omega)
    omega
   omega
  subst this
  omega
 have f1:=Int.mul_ediv_add_emod p m
 have f2:=Int.mul_ediv_add_emod p' m
 rw[←f1,←f2,ex,er]
theorem ZlV {e:List (List Int)} {N:Nat} (h:Sq e N) (N0:0 < N) (inj:∀a b p:Int,0≤a→a < N→0≤b→b < N→0≤p→p < N→T e a p=T e b p→a=b) {p:Int} (p0:0≤p) (p1:p < N) :
  ∃k:Nat,1≤k∧k≤N∧seq (fun q=>T e q p) 0 k=0∧∀j,1≤j→j < k→seq (fun q=>T e q p) 0 j≠0:=by
 obtain⟨k,k1,k2,k3,k4⟩:=Ziw (f:=fun q=>T e q p) (N:=N) (fun x x0 x1=>h.ent x p x0 x1 p0 p1) (fun x y x0 x1 y0 y1 e=>inj x y p x0 x1 y0 y1 p0 p1 e) (x:=0) (by omega) (by omega)
 exact⟨k,k2,k1,k3,k4⟩
theorem Ziz {g:List (List Int)} (hg:Grp g) {m:Int} {u v:List Int} (hm:Mdl g m u) {N:Nat} (hN:(N:Int)=g.length*m) (a b p:Int) (a0:0≤a) (a1:a < N) (b0:0≤b) (b1:b < N) (p0:0≤p) (p1:p < N) (e:T (extT g m u v N) a p=T (extT g m u v N) b p):a=b:=by
 obtain⟨a,rfl⟩:=Int.eq_ofNat_of_zero_le a0
 obtain⟨b,rfl⟩:=Int.eq_ofNat_of_zero_le b0
 obtain⟨p,rfl⟩:=Int.eq_ofNat_of_zero_le p0
 rw[(ext_T (by omega) (by omega)).2,(ext_T (by omega) (by omega)).2]at e
 exact Zlf hg hm (by omega) (by omega) (by omega) (by omega) (by omega) (by omega) e
end Go.Proofs.YthmcpmnhdbeahaaGreat.V
namespace Go.Proofs.YthmcpmnhdbeahaaGreat.V
open Go.RowKit Go.Proofs.YthmcpmnhdbeahaaGreat.D Go.Proofs.YthmcpmnhdbeahaaGreat.P
theorem Zdq (g:List (List Int)) (m:Int) (u:List Int) (d:Int) (v:List Int) (hl:g.length≤maxLen) (hr:∀r∈g,r.length≤maxLen) (hu:u.length≤maxLen) (hv:v.length≤maxLen) :
  ∃(R:List Int) (c:Int),Zg.f g m u d v=some (R,c)∧ZR.f g m u d v=some (R,c)∧R.length≤1048576∧ZM.f g m u d v 64=some c∧(¬ c=0→R=[])∧(c=0→∀N:Nat,(N:Int)=g.length*m→R.length=N∧∀p:Nat,p < N→∃k:Nat,rd R (p:Int)=(k:Int)∧1≤k∧k≤N∧seq (fun q=>T (extT g m u v N) q (p:Int)) 0 k=0∧∀j,1≤j→j < k→seq (fun q=>T (extT g m u v N) q (p:Int)) 0 j≠0):=by
 rw[Zg.f_eq,ZR.f_eq]
 rcases factor g hl hr m u hu d v hv 64 with ⟨rfl,hg,hm,hc,_,_,cS,cI⟩|⟨c,c0,cS,cI⟩
 rotate_left
 ·
  exact⟨[],c,by((with_reducible repeat (first|refine Zj (by first|assumption|omega|rfl|exact B_pos (by omega)) ?_|refine Zi (by first|assumption|omega|decide|exact B_not (by omega)) ?_|refine Za (by first|assumption) ?_|dsimp only));first|done|(with_reducible rfl)|simp (disch:=omega) only[w64]|(show False;done)),by((with_reducible repeat (first|refine Zj (by first|assumption|omega|rfl|exact B_pos (by omega)) ?_|refine Zi (by first|assumption|omega|decide|exact B_not (by omega)) ?_|refine Za (by first|assumption) ?_|dsimp only));first|done|(with_reducible rfl)|simp (disch:=omega) only[w64]|(show False;done)),by simp,cI,fun _=>rfl,fun h=>absurd h c0⟩
 have m2:=hm.m2
 obtain⟨N,hN⟩:∃N:Nat,(N:Int)=g.length*m:=⟨((g.length:Int)*m).toNat,by rw[Int.toNat_of_nonneg (Int.mul_nonneg (by omega) (by omega))]⟩
 obtain⟨hE,h96⟩:=extension hg hm hc hN
 have hT:=ZiS hg hm hc hN
 obtain⟨hs,one,N0⟩:=Zjj hg hm hc hN
 have inj:=Ziz (v:=v) hg hm hN
 obtain⟨e,he⟩:∃e,e=extT g m u v N:=⟨_,rfl⟩
 rw[←he]at hE hT hs one inj
 have hle:=hs.len
 have hkk:∀p:Nat,∃k:Nat,p < N→1≤k∧k≤N∧seq (fun q=>T e q (p:Int)) 0 k=0∧∀j,1≤j→j < k→seq (fun q=>T e q (p:Int)) 0 j≠0:=fun p=>by
  by_cases hp:p < N
  ·
   obtain⟨k,h⟩:=ZlV hs N0 inj (p:=(p:Int)) (by omega) (by omega)
   exact⟨k,fun _=>h⟩
  ·
   exact⟨0,fun h=>absurd h hp⟩
 obtain⟨K,hK⟩:=Classical.axiomOfChoice hkk
 have hin:∀p:Nat,p < N→∀j,0≤seq (fun q=>T e q (p:Int)) 0 j∧seq (fun q=>T e q (p:Int)) 0 j < N:=fun p hp j=>ZeT (f:=fun q=>T e q (p:Int)) (N:=N) (fun x x0 x1=>hs.ent x p x0 x1 (by omega) (by omega)) (by omega) (by omega) j
 have h1:∀p:Nat,p < N→seq (fun q=>T e q (p:Int)) 0 1=(p:Int):=fun p hp=>one (p:Int) (by omega) (by omega)
 have hO:∀p:Nat,p < N→ZJ.f e (p:Int)=some ((K p:Nat):Int):=fun p hp=>by
  obtain⟨k1,k2,k3,k4⟩:=hK p hp
  have H:∀d j:Nat,1≤j→j+d=K p→ZJ.l0 (p:Int) (j:Int) (seq (fun q=>T e q (p:Int)) 0 j) e=some ((K p:Nat):Int):=by
   intro d
   induction d with
   | zero =>
    intro j j1 hj
    obtain rfl:j=K p:=by omega
    rw[k3,ZJ.l0_eq,if_pos rfl]
   | succ d ih =>
    intro j j1 hj
    have hz:=k4 j j1 (by omega)
    obtain⟨s0,s1⟩:=hin p hp j
    have ht:=hs.times2 one s0 s1 (show(0:Int)≤p by omega) (by omega)
    have i1:=ih (j+1) (by omega) (by omega)
    rw[ZJ.l0_eq,if_neg hz,ht,Option.bind_some,wn (j:=j) (by omega)]
    exact i1
  have:=H (K p - 1) 1 (by omega) (by omega)
  rw[h1 p hp]at this
  rw[ZJ.f_eq]
  exact this
 have hcount:=counting (n:=N) (by omega)
 have hM:=mapped (F:=fun z0=>((ZJ.f e z0).map fun z=>z).map fun z=>z) (G:=fun x=>((K x.toNat:Nat):Int)) ((List.range N).map fun i:Nat=>(i:Int)) (by rw[List.length_map,List.length_range];omega) (fun x hx=>by
  obtain⟨p,hp,rfl⟩:=List.mem_map.1 hx
  have hp:=List.mem_range.1 hp
  show Option.map _ (Option.map _ (ZJ.f e (p:Int)))=_
  rw[hO p hp,Int.toNat_natCast];rfl)
 have hR:((List.range N).map fun i:Nat=>(i:Int)).map (fun x=>((K x.toNat:Nat):Int))=(List.range N).map fun p:Nat=>((K p:Nat):Int):=by
  rw[List.map_map]
  apply List.map_congr_left
  intro p _
  simp
 rw[hR]at hM
 have hord:ZS.f e=some (N:Int):=by rw[ZS.f_eq,hle]
 refine⟨(List.range N).map fun p:Nat=>((K p:Nat):Int),0,?_,by((with_reducible repeat (first|refine Zj (by first|assumption|omega|rfl|exact B_pos (by omega)) ?_|refine Zi (by first|assumption|omega|decide|exact B_not (by omega)) ?_|refine Za (by first|assumption) ?_|dsimp only));first|done|(with_reducible rfl)|simp (disch:=omega) only[w64]|(show False;done)),by rw[List.length_map,List.length_range];omega,cI,fun h=>absurd rfl h,fun _ N' hN' => ?_⟩
 rotate_left
 ·
  obtain rfl:N' = N:=by omega
  refine⟨by rw[List.length_map,List.length_range],fun p hp=>⟨K p,?_,?_⟩⟩
  ·
   rw[Zb3 (by rw[List.length_map,List.length_range];exact hp)]
   simp
  ·
   rw[←he]
   exact hK p hp
 have loop:=up N (fun p=>Zg.l0 e (p:Int) ((List.range p).map fun p:Nat=>((K p:Nat):Int))) (fun p hp=>by
  obtain⟨k1,k2,k3,k4⟩:=hK p hp
  have l1:((List.range p).map fun p:Nat=>((K p:Nat):Int)).length=p:=by rw[List.length_map,List.length_range]
  have l2:∀x:Int,([x]:List Int).length=1:=fun _=>rfl
  have H:∀d j:Nat,1≤j→j+d=K p→Zg.l1 e (p:Int) (j:Int) (seq (fun q=>T e q (p:Int)) 0 j) ((List.range p).map fun p:Nat=>((K p:Nat):Int))=Zg.l0 e ((p+1:Nat):Int) ((List.range (p+1)).map fun p:Nat=>((K p:Nat):Int)):=by
   intro d
   induction d with
   | zero =>
    intro j j1 hj
    obtain rfl:j=K p:=by omega
    rw[k3,Zg.l1_eq,if_pos rfl,l1,l2,wn (j:=p) (by omega),List.range_succ,List.map_append,List.map_singleton]
    ((with_reducible repeat (first|refine Zj (by first|assumption|omega|rfl|exact B_pos (by omega)) ?_|refine Zi (by first|assumption|omega|decide|exact B_not (by omega)) ?_|refine Za (by first|assumption) ?_|dsimp only));first|done|(with_reducible rfl)|simp (disch:=omega) only[w64]|(show False;done))
   | succ d ih =>
    intro j j1 hj
    have hz:=k4 j j1 (by omega)
    obtain⟨s0,s1⟩:=hin p hp j
    have hrow:=hs.row _ s0 s1
    have i1:=ih (j+1) (by omega) (by omega)
    rw[Zg.l1_eq,if_neg hz,wn (j:=j) (by omega)]
    (with_reducible repeat (first|refine Zj (by first|assumption|omega|rfl|exact B_pos (by omega)) ?_|refine Zi (by first|assumption|omega|decide|exact B_not (by omega)) ?_|refine Za (by first|assumption) ?_|dsimp only))
    exact i1
  have:=H (K p - 1) 1 (by omega) (by omega)
  rw[h1 p hp]at this
  rw[Zg.l0_eq]
  (with_reducible repeat (first|refine Zj (by first|assumption|omega|rfl|exact B_pos (by omega)) ?_|refine Zi (by first|assumption|omega|decide|exact B_not (by omega)) ?_|refine Za (by first|assumption) ?_|dsimp only))
  exact this)
 simp only[Int.natCast_zero,List.range_zero,List.map_nil]at loop
 (with_reducible repeat (first|refine Zj (by first|assumption|omega|rfl|exact B_pos (by omega)) ?_|refine Zi (by first|assumption|omega|decide|exact B_not (by omega)) ?_|refine Za (by first|assumption) ?_|dsimp only))
 rw[loop,Zg.l0_eq]
 ((with_reducible repeat (first|refine Zj (by first|assumption|omega|rfl|exact B_pos (by omega)) ?_|refine Zi (by first|assumption|omega|decide|exact B_not (by omega)) ?_|refine Za (by first|assumption) ?_|dsimp only));first|done|(with_reducible rfl)|simp (disch:=omega) only[w64]|(show False;done))
end Go.Proofs.YthmcpmnhdbeahaaGreat.V
namespace Go.Proofs.YthmcpmnhdbeahaaGreat.V
open Go.RowKit Go.Proofs.YthmcpmnhdbeahaaGreat.D Go.Proofs.YthmcpmnhdbeahaaGreat.P
theorem ZfV {F:Int→Option Bool} {p:Int→Bool} (xs:List Int) (hl:xs.length≤1048576) (hF:∀x∈xs,F x=some (p x)) :
  ((∀x∈xs,p x=false)∧Zd.f xs F=some (-1))∨∃i:Nat,i < xs.length∧p (rd xs i)=true∧(∀x∈xs.take i,p x=false)∧Zd.f xs F=some (i:Int):=by
 rw[Zd.f_eq]
 suffices H:∀d m:Nat,m+d=xs.length→(∀x∈xs.take m,p x=false)→((∀x∈xs,p x=false)∧Zd.l0 xs F (xs.length:Int) m=some (-1))∨∃i:Nat,i < xs.length∧p (rd xs i)=true∧(∀x∈xs.take i,p x=false)∧Zd.l0 xs F (xs.length:Int) m=some (i:Int)from
  H xs.length 0 (by omega) (by simp)
 intro d
 induction d with
 | zero =>
  intro m hd hp
  obtain rfl:m=xs.length:=by omega
  rw[List.take_length]at hp
  refine .inl ⟨hp,?_⟩
  rw[Zd.l0_eq]
  ((with_reducible repeat (first|refine Zj (by first|assumption|omega|rfl|exact B_pos (by omega)) ?_|refine Zi (by first|assumption|omega|decide|exact B_not (by omega)) ?_|refine Za (by first|assumption) ?_|dsimp only));first|done|(with_reducible rfl)|simp (disch:=omega) only[w64]|(show False;done))
 | succ d ih =>
  intro m hd hp
  have hf:=hF (rd xs m) (ZcM (by omega) (by omega))
  cases h:p (rd xs m)with
  | true =>
   rw[h]at hf
   refine .inr ⟨m,by omega,h,hp,?_⟩
   rw[Zd.l0_eq]
   ((with_reducible repeat (first|refine Zj (by first|assumption|omega|rfl|exact B_pos (by omega)) ?_|refine Zi (by first|assumption|omega|decide|exact B_not (by omega)) ?_|refine Za (by first|assumption) ?_|dsimp only));first|done|(with_reducible rfl)|simp (disch:=omega) only[w64]|(show False;done))
  | false =>
   rw[h]at hf
   have st:Zd.l0 xs F (xs.length:Int) m=Zd.l0 xs F (xs.length:Int) ((m+1:Nat):Int):=by
    rw[Zd.l0_eq,wn (j:=m) (by omega)]
    ((with_reducible repeat (first|refine Zj (by first|assumption|omega|rfl|exact B_pos (by omega)) ?_|refine Zi (by first|assumption|omega|decide|exact B_not (by omega)) ?_|refine Za (by first|assumption) ?_|dsimp only));first|done|(with_reducible rfl)|simp (disch:=omega) only[w64]|(show False;done))
   rw[st]
   refine ih (m+1) (by omega) fun x hx => ?_
   rw[Zcx (by omega)]at hx
   rcases List.mem_append.1 hx with hx|hx
   ·
    exact hp x hx
   ·
    rw[List.mem_singleton.1 hx];exact h
theorem Zix {F:Int→Option Bool} {p:Int→Bool} (xs:List Int) (hl:xs.length≤1048576) (hF:∀x∈xs,F x=some (p x)):Zn.f xs F=some (xs.filter fun x => !p x):=by
 have hi:=ZfV (F:=fun z0=>(F z0).map fun z=>z) (p:=p) xs hl (fun x hx=>by
  show Option.map _ (F x)=_
  rw[hF x hx];rfl)
 rw[Zn.f_eq]
 rcases hi with ⟨h,e⟩|⟨i,i1,hpi,hp,e⟩
 ·
  rw[e,Option.bind_some,if_pos rfl,List.filter_eq_self.2 fun x hx=>by rw[h x hx];rfl]
 rw[e,Option.bind_some,if_neg (by omega),wn (j:=i) (by omega)]
 have fil:∀m:Nat,(xs.take m).filter (fun x => !p x)=(xs.take m).filter (fun x => !p x):=fun _=>rfl
 have H:∀d m:Nat,m+d=xs.length→∀(k:Nat) (r:List Int),k < m→r.length=xs.length→r.take k=(xs.take m).filter (fun x => !p x)→r.drop m=xs.drop m→Zn.l0 F (k:Int) (m:Int) r=some (xs.filter fun x => !p x):=by
  intro d
  induction d with
  | zero =>
   intro m hd k r hk hr h1 _
   obtain rfl:m=xs.length:=by omega
   rw[List.take_length]at h1
   have l1:(r.take k++List.replicate (r.length - k) 0).length=xs.length:=by rw[List.length_append,List.length_take,List.length_replicate];omega
   have e2:(r.take k++List.replicate (r.length - k) 0).take k=r.take k:=by
    rw[List.take_append_of_le_length (by rw[List.length_take];omega),List.take_take,Nat.min_self]
   rw[Zn.l0_eq,Int.toNat_natCast,l1,e2,←h1]
   ((with_reducible repeat (first|refine Zj (by first|assumption|omega|rfl|exact B_pos (by omega)) ?_|refine Zi (by first|assumption|omega|decide|exact B_not (by omega)) ?_|refine Za (by first|assumption) ?_|dsimp only));first|done|(with_reducible rfl)|simp (disch:=omega) only[w64]|(show False;done))
  | succ d ih =>
   intro m hd k r hk hr h1 h2
   have hrx:rd r (m:Int)=rd xs (m:Int):=by
    have hm1:m < r.length:=by omega
    have hm2:m < xs.length:=by omega
    have:=congrArg List.head? h2
    rw[Zgg hm1,Zgg hm2]at this
    simpa using this
   have hd2:r.drop (m+1)=xs.drop (m+1):=by
    have hm1:m < r.length:=by omega
    have hm2:m < xs.length:=by omega
    have:=congrArg List.tail h2
    rw[Zgg hm1,Zgg hm2]at this
    simpa using this
   have hf:=hF (rd xs m) (ZcM (by omega) (by omega))
   have tk:=Zcx (xs:=xs) (m:=m) (by omega)
   rw[Zn.l0_eq,hrx,hf,Option.bind_some,wn (j:=m) (by omega),wn (j:=k) (by omega),Int.toNat_natCast]
   cases h:p (rd xs m)with
   | true =>
    have:=ih (m+1) (by omega) k r (by omega) hr (by rw[tk,List.filter_append,h1];simp[h]) hd2
    (with_reducible repeat (first|refine Zj (by first|assumption|omega|rfl|exact B_pos (by omega)) ?_|refine Zi (by first|assumption|omega|decide|exact B_not (by omega)) ?_|refine Za (by first|assumption) ?_|dsimp only))
    exact this
   | false =>
    have:=ih (m+1) (by omega) (k+1) (r.set k (rd xs m)) (by omega) (by rw[List.length_set,hr]) (by
     rw[tk,List.filter_append,←h1,List.take_succ_eq_append_getElem (by rw[List.length_set];omega),List.getElem_set_self,List.take_set_of_le (Nat.le_refl _)]
     simp[h]) (by rw[List.drop_set_of_lt (by omega)];exact hd2)
    (with_reducible repeat (first|refine Zj (by first|assumption|omega|rfl|exact B_pos (by omega)) ?_|refine Zi (by first|assumption|omega|decide|exact B_not (by omega)) ?_|refine Za (by first|assumption) ?_|dsimp only))
    exact this
 refine H (xs.length - (i+1)) (i+1) (by omega) i xs (by omega) rfl ?_ rfl
 rw[Zcx i1,List.filter_append,List.filter_eq_self.2 fun x hx=>by rw[hp x hx];rfl]
 simp[hpi]
def kept (n:Nat) (p:Nat→Bool):List Int:=((List.range n).filter p).map fun i:Nat=>(i:Int)
theorem Zjv (n:Nat) (p:Nat→Bool):kept (n+1) p=kept n p++(if p n=true then [(n:Int)]else []):=by
 unfold kept
 rw[List.range_succ,List.filter_append,List.map_append,List.filter_cons,List.filter_nil]
 split <;> rfl
theorem Zib (n:Nat) (p:Nat→Bool):(kept n p).length≤n:=by
 rw[kept,List.length_map]
 exact Nat.le_trans (List.length_filter_le _ _) (by simp)
theorem those {g:List (List Int)} (hn:g.length≤1048576) {F:Int→Option Bool} {p:Nat→Bool} (hF:∀i:Nat,i < g.length→F (i:Int)=some (p i)):ZaL.f g F=some (kept g.length p):=by
 have hd:=Zix (F:=fun z0=>(Zam.f z0 (fun u0=>(F u0).map fun z=>z)).map fun z=>z) (p:=fun x => !p x.toNat) ((List.range g.length).map fun i:Nat=>(i:Int)) (by rw[List.length_map,List.length_range];exact hn) (fun x hx=>by
  obtain⟨i,hi,rfl⟩:=List.mem_map.1 hx
  have hi:=List.mem_range.1 hi
  show Option.map _ (Zam.f (i:Int) _)=_
  rw[Zam.f_eq,hF i hi]
  simp)
 rw[ZaL.f_eq,ZS.f_eq,Option.bind_some,counting hn,Option.bind_some,hd,Option.bind_some,kept,List.filter_map]
 congr 2
 refine List.filter_congr fun i _ => ?_
 simp
end Go.Proofs.YthmcpmnhdbeahaaGreat.V
namespace Go.Proofs.YthmcpmnhdbeahaaGreat.V
open Go.RowKit Go.Proofs.YthmcpmnhdbeahaaGreat.D Go.Proofs.YthmcpmnhdbeahaaGreat.P
def comm (e:List (List Int)) (N p:Nat):Bool:=(List.range N).all fun q=>decide (T e (p:Int) (q:Int)=T e (q:Int) (p:Int))
theorem centre {e:List (List Int)} {N:Nat} (h:Sq e N) (one:∀a:Int,0≤a→a < N→T e 0 a=a) (hN:N≤96):ZaB.f e=some (kept N (comm e N)):=by
 have hl:=h.len
 have hT:=those (g:=e) (by omega) (F:=fun z0=>(Zab.f z0 e).map fun z=>z) (p:=comm e N) (fun p hp=>by
  have hp' : p < N:=by omega
  have hI:=ZfV (F:=fun z0=>(Option.map (fun z=>z) (ZU.f z0 e p)).map fun z=>z) (p:=fun x => !decide (T e x p=T e p x)) ((List.range N).map fun i:Nat=>(i:Int)) (by rw[List.length_map,List.length_range];omega) (fun x hx=>by
   obtain⟨i,hi,rfl⟩:=List.mem_map.1 hx
   have hi:=List.mem_range.1 hi
   have t1:=h.times2 one (x:=(p:Int)) (y:=(i:Int)) (by omega) (by omega) (by omega) (by omega)
   have t2:=h.times2 one (x:=(i:Int)) (y:=(p:Int)) (by omega) (by omega) (by omega) (by omega)
   show Option.map _ (Option.map _ (ZU.f (i:Int) e p))=_
   rw[ZU.f_eq]
   first
   | (rw[t1,Option.bind_some,t2];simp[eq_comm];done)
   | (rw[t2,Option.bind_some,t1];simp;done))
  show Option.map _ (Zab.f (p:Int) e)=_
  rw[Zab.f_eq,ZS.f_eq,Option.bind_some,hl,counting (by omega),Option.bind_some,Zz.f_eq]
  rcases hI with ⟨h1,h2⟩|⟨i,i1,h1,_,h2⟩
  ·
   have hc:comm e N p=true:=by
    unfold comm
    rw[List.all_eq_true]
    intro q hq
    have:=h1 (q:Int) (List.mem_map.2 ⟨q,hq,rfl⟩)
    have h3:T e (q:Int) p=T e p q:=by simpa using this
    exact decide_eq_true h3.symm
   rw[h2,hc]
   rfl
  ·
   rw[List.length_map,List.length_range]at i1
   have hri:rd ((List.range N).map fun i:Nat=>(i:Int)) (i:Int)=(i:Int):=by
    rw[Zb3 (by rw[List.length_map,List.length_range];exact i1)]
    simp
   rw[hri]at h1
   have h3:¬ T e (i:Int) p=T e p i:=by simpa using h1
   have hc:comm e N p=false:=by
    unfold comm
    rw[List.all_eq_false]
    exact⟨i,List.mem_range.2 i1,by simpa using fun q=>h3 q.symm⟩
   rw[h2,hc]
   have:decide ((i:Int)≥0)=true:=decide_eq_true (by omega)
   simp only[Option.bind_some,this]
   rfl)
 rw[ZaB.f_eq,hT,Option.bind_some,hl]
theorem Zdp (g:List (List Int)) (m:Int) (u:List Int) (d:Int) (v:List Int) (hl:g.length≤maxLen) (hr:∀r∈g,r.length≤maxLen) (hu:u.length≤maxLen) (hv:v.length≤maxLen) :
  ∃(R:List Int) (c:Int),Ze.f g m u d v=some (R,c)∧ZQ.f g m u d v=some (R,c)∧R.length≤1048576∧ZM.f g m u d v 64=some c∧(¬ c=0→R=[])∧(c=0→∀N:Nat,(N:Int)=g.length*m→R=kept N (comm (extT g m u v N) N)):=by
 rw[Ze.f_eq,ZQ.f_eq]
 rcases factor g hl hr m u hu d v hv 64 with ⟨rfl,hg,hm,hc,_,_,cS,cI⟩|⟨c,c0,cS,cI⟩
 rotate_left
 ·
  exact⟨[],c,by((with_reducible repeat (first|refine Zj (by first|assumption|omega|rfl|exact B_pos (by omega)) ?_|refine Zi (by first|assumption|omega|decide|exact B_not (by omega)) ?_|refine Za (by first|assumption) ?_|dsimp only));first|done|(with_reducible rfl)|simp (disch:=omega) only[w64]|(show False;done)),by((with_reducible repeat (first|refine Zj (by first|assumption|omega|rfl|exact B_pos (by omega)) ?_|refine Zi (by first|assumption|omega|decide|exact B_not (by omega)) ?_|refine Za (by first|assumption) ?_|dsimp only));first|done|(with_reducible rfl)|simp (disch:=omega) only[w64]|(show False;done)),by simp,cI,fun _=>rfl,fun h=>absurd h c0⟩
 have m2:=hm.m2
 obtain⟨N,hN⟩:∃N:Nat,(N:Int)=g.length*m:=⟨((g.length:Int)*m).toNat,by rw[Int.toNat_of_nonneg (Int.mul_nonneg (by omega) (by omega))]⟩
 obtain⟨hE,h96⟩:=extension hg hm hc hN
 have hT:=ZiS hg hm hc hN
 obtain⟨hs,one,N0⟩:=Zjj hg hm hc hN
 obtain⟨e,he⟩:∃e,e=extT g m u v N:=⟨_,rfl⟩
 rw[←he]at hE hT hs one
 have hC:=centre hs one h96
 have hle:=hs.len
 have hk:=Zib N (comm e N)
 have hsem:∀N' : Nat,(N' : Int)=g.length*m→kept N (comm e N)=kept N' (comm (extT g m u v N') N'):=fun N' hN' => by
  obtain rfl:N' = N:=by omega
  rw[he]
 refine⟨kept N (comm e N),0,?_,by((with_reducible repeat (first|refine Zj (by first|assumption|omega|rfl|exact B_pos (by omega)) ?_|refine Zi (by first|assumption|omega|decide|exact B_not (by omega)) ?_|refine Za (by first|assumption) ?_|dsimp only));first|done|(with_reducible rfl)|simp (disch:=omega) only[w64]|(show False;done)),by omega,cI,fun h=>absurd rfl h,fun _=>hsem⟩
 have loop:=up N (fun p=>Ze.l0 e (p:Int) (kept p (comm e N))) (fun p hp=>by
  have rp:=hs.row p (by omega) (by omega)
  have inner:=up N (fun q=>Ze.l1 e (p:Int) ((List.range q).all fun q=>decide (T e (p:Int) (q:Int)=T e (q:Int) (p:Int))) (q:Int) (kept p (comm e N))) (fun q hq=>by
   have rq:=hs.row q (by omega) (by omega)
   rw[List.range_succ,List.all_append,Ze.l1_eq,wn (j:=q) (by omega)]
   cases hb:(List.range q).all fun q=>decide (T e (p:Int) (q:Int)=T e (q:Int) (p:Int))with
   | true =>
    (with_reducible repeat (first|refine Zj (by first|assumption|omega|rfl|exact B_pos (by omega)) ?_|refine Zi (by first|assumption|omega|decide|exact B_not (by omega)) ?_|refine Za (by first|assumption) ?_|dsimp only))
    simp
   | false =>
    (with_reducible repeat (first|refine Zj (by first|assumption|omega|rfl|exact B_pos (by omega)) ?_|refine Zi (by first|assumption|omega|decide|exact B_not (by omega)) ?_|refine Za (by first|assumption) ?_|dsimp only))
    simp)
  simp only[Int.natCast_zero,List.range_zero,List.all_nil]at inner
  have l1:=Zib p (comm e N)
  have l2:∀x:Int,([x]:List Int).length=1:=fun _=>rfl
  rw[Zjv,Ze.l0_eq]
  (with_reducible repeat (first|refine Zj (by first|assumption|omega|rfl|exact B_pos (by omega)) ?_|refine Zi (by first|assumption|omega|decide|exact B_not (by omega)) ?_|refine Za (by first|assumption) ?_|dsimp only))
  rw[inner,Ze.l1_eq,l2,wn (j:=p) (by omega),show(List.range N).all (fun q=>decide (T e (p:Int) (q:Int)=T e (q:Int) (p:Int)))=comm e N p from rfl]
  cases hb:comm e N p with
  | true =>
   rw[show(if(true:Bool)=true then [(p:Int)]else [])=[(p:Int)]from rfl]
   ((with_reducible repeat (first|refine Zj (by first|assumption|omega|rfl|exact B_pos (by omega)) ?_|refine Zi (by first|assumption|omega|decide|exact B_not (by omega)) ?_|refine Za (by first|assumption) ?_|dsimp only));first|done|(with_reducible rfl)|simp (disch:=omega) only[w64]|(show False;done))
  | false =>
   rw[show(if(false:Bool)=true then [(p:Int)]else [])=[]from rfl,List.append_nil]
   ((with_reducible repeat (first|refine Zj (by first|assumption|omega|rfl|exact B_pos (by omega)) ?_|refine Zi (by first|assumption|omega|decide|exact B_not (by omega)) ?_|refine Za (by first|assumption) ?_|dsimp only));first|done|(with_reducible rfl)|simp (disch:=omega) only[w64]|(show False;done)))
 have k0:kept 0 (comm e N)=[]:=rfl
 simp only[Int.natCast_zero,k0]at loop
 (with_reducible repeat (first|refine Zj (by first|assumption|omega|rfl|exact B_pos (by omega)) ?_|refine Zi (by first|assumption|omega|decide|exact B_not (by omega)) ?_|refine Za (by first|assumption) ?_|dsimp only))
 rw[loop,Ze.l0_eq]
 ((with_reducible repeat (first|refine Zj (by first|assumption|omega|rfl|exact B_pos (by omega)) ?_|refine Zi (by first|assumption|omega|decide|exact B_not (by omega)) ?_|refine Za (by first|assumption) ?_|dsimp only));first|done|(with_reducible rfl)|simp (disch:=omega) only[w64]|(show False;done))
end Go.Proofs.YthmcpmnhdbeahaaGreat.V
set_option maxHeartbeats 4000000
namespace Go.Proofs.YthmcpmnhdbeahaaGreat.V
open Go.RowKit Go.Proofs.YthmcpmnhdbeahaaGreat.D
def chkG (g:List (List Int)):Bool :=
 decide (1≤g.length) && decide (g.length≤8) && (List.range g.length).all fun a=>decide ((row g (a:Int)).length=g.length) && decide (T g 0 (a:Int)=a) && decide (T g (a:Int) 0=a) && ((List.range g.length).any fun b=>decide (T g (a:Int) (b:Int)=0)) &&
  (List.range g.length).all fun b=>decide (0≤T g (a:Int) (b:Int)) && decide (T g (a:Int) (b:Int) < g.length) && (List.range g.length).all fun c=>decide (T g (T g (a:Int) (b:Int)) (c:Int)=T g (a:Int) (T g (b:Int) (c:Int)))
theorem Zdc {g:List (List Int)} (h:chkG g=true):Grp g:=by
 unfold chkG at h
 simp only[Bool.and_eq_true,decide_eq_true_eq,List.all_eq_true,List.any_eq_true,List.mem_range]at h
 obtain⟨⟨h1,h2⟩,h3⟩:=h
 have to:∀{P:Int→Prop},(∀a:Nat,a < g.length→P (a:Int))→∀a:Int,0≤a→a < g.length→P a:=fun {P} H a a0 a1=>by
  have:=H a.toNat (by omega)
  rwa[Int.toNat_of_nonneg a0]at this
 refine⟨h1,h2,to fun a ha=>(h3 a ha).1.1.1.1,fun a b a0 a1 b0 b1 => ?_,to fun a ha=>(h3 a ha).1.1.1.2,to fun a ha=>(h3 a ha).1.1.2,fun a b c a0 a1 b0 b1 c0 c1 => ?_,to fun a ha => ?_⟩
 ·
  refine to (P:=fun a=>∀b:Int,0≤b→b < g.length→0≤T g a b∧T g a b < g.length) (fun a ha=>to fun b hb=>(((h3 a ha).2 b hb).1)) a a0 a1 b b0 b1
 ·
  refine to (P:=fun a=>∀b:Int,0≤b→b < g.length→∀c:Int,0≤c→c < g.length→T g (T g a b) c=T g a (T g b c)) (fun a ha=>to (P:=fun b=>∀c:Int,0≤c→c < g.length→T g (T g (a:Int) b) c=T g (a:Int) (T g b c)) fun b hb=>to fun c hc=>((h3 a ha).2 b hb).2 c hc) a a0 a1 b b0 b1 c c0 c1
 ·
  obtain⟨b,hb,e⟩:=(h3 a ha).1.2
  exact⟨(b:Int),by omega,by omega,e⟩
def cyc (n:Nat):List (List Int):=(List.range n).map fun a:Nat=>(List.range n).map fun b:Nat=>((a:Int)+(b:Int))%(n:Int)
def prd (g h:List (List Int)):List (List Int):=(List.range (g.length*h.length)).map fun x:Nat=>(List.range (g.length*h.length)).map fun y:Nat=>(h.length:Int)*T g ((x:Int) / (h.length:Int)) ((y:Int) / (h.length:Int))+T h ((x:Int)%(h.length:Int)) ((y:Int)%(h.length:Int))
def twd (n:Nat) (more:Int):List (List Int):=(List.range (2*n)).map fun a:Nat=>(List.range (2*n)).map fun b:Nat=>(n:Int)*(((a:Int) / n+(b:Int) / n)%2)+((if(b:Int) / n=1 then(b:Int)%n - (a:Int)%n else(a:Int)%n+(b:Int)%n)+more*((a:Int) / n)*((b:Int) / n))%(n:Int)
theorem Zhu:∀n:Nat,n≤8→1≤n→chkG (cyc n)=true:=by decide +kernel
theorem ZjE:chkG (prd (cyc 2) (cyc 2))=true∧chkG (prd (cyc 2) (prd (cyc 2) (cyc 2)))=true∧chkG (prd (cyc 2) (cyc 4))=true∧chkG (twd 3 0)=true∧chkG (twd 4 0)=true∧chkG (twd 4 2)=true:=by decide +kernel
structure Ordr (n:Nat) (p:List Int):Prop where
 len:p.length=n
 ent:∀i:Nat,i < n→0≤rd p (i:Int)∧rd p (i:Int) < n
 inj:∀i j:Nat,i < n→j < n→rd p (i:Int)=rd p (j:Int)→i=j
theorem nd_le {α : Type} [DecidableEq α]:∀{l m:List α},l.Nodup→(∀x∈l,x∈m)→l.length≤m.length
 | [],m,_,_=>Nat.zero_le _
 | x :: l,m,hn,hs=>by
  rw[List.nodup_cons]at hn
  have hx:=hs x List.mem_cons_self
  have:=nd_le (l:=l) (m:=m.erase x) hn.2 fun y hy=>(List.mem_erase_of_ne (fun e=>hn.1 (by rw[←e];exact hy))).2 (hs y (List.mem_cons_of_mem _ hy))
  rw[List.length_erase_of_mem hx]at this
  have:=List.length_pos_of_mem hx
  rw[List.length_cons]
  omega
theorem Zkp {n:Nat} {f:Nat→Nat} (hb:∀i,i < n→f i < n) (hi:∀i j,i < n→j < n→f i=f j→i=j):∀k,k < n→∃i,i < n∧f i=k:=by
 intro k hk
 apply Classical.byContradiction
 intro hno
 have hnd:((List.range n).map f).Nodup:=by
  rw[List.Nodup,List.pairwise_map]
  exact List.Pairwise.imp_of_mem (fun {a b} ha hb h e=>h (hi a b (List.mem_range.1 ha) (List.mem_range.1 hb) e)) (List.nodup_range (n:=n))
 have:=nd_le (m:=(List.range n).erase k) hnd (fun x hx=>by
  obtain⟨i,hi', rfl⟩:=List.mem_map.1 hx
  exact(List.mem_erase_of_ne (fun e=>hno ⟨i,List.mem_range.1 hi', e⟩)).2 (List.mem_range.2 (hb i (List.mem_range.1 hi'))))
 rw[List.length_erase_of_mem (List.mem_range.2 hk),List.length_map,List.length_range]at this
 omega
theorem Ordr.onto {n:Nat} {p:List Int} (h:Ordr n p) {k:Int} (k0:0≤k) (k1:k < n):∃i:Nat,i < n∧rd p (i:Int)=k:=by
 obtain⟨i,hi,e⟩:=Zkp (n:=n) (f:=fun i=>(rd p (i:Int)).toNat) (fun i hi=>by have:=h.ent i hi;omega) (fun i j hi hj e=>h.inj i j hi hj (by have:=h.ent i hi;have:=h.ent j hj;omega)) k.toNat (by omega)
 exact⟨i,hi,by have:=h.ent i hi;omega⟩
theorem Zjp {g g' : List (List Int)} (hg:Grp g) {p:List Int} (hp:Ordr g.length p) (h0:rd p 0=0) (hl:g'.length=g.length) (hr:∀a:Nat,a < g.length→(row g' (a:Int)).length=g.length) (hT:∀a b:Nat,a < g.length→b < g.length→T g' (rd p (a:Int)) (rd p (b:Int))=rd p (T g (a:Int) (b:Int))):Grp g' := by
 have n1:=hg.n1;have n8:=hg.n8
 have hTi:∀a b:Int,0≤a→a < g.length→0≤b→b < g.length→T g' (rd p a) (rd p b)=rd p (T g a b):=fun a b a0 a1 b0 b1=>by
  have:=hT a.toNat b.toNat (by omega) (by omega)
  rwa[Int.toNat_of_nonneg a0,Int.toNat_of_nonneg b0]at this
 have hon:∀k:Int,0≤k→k < g'.length→∃i:Int,(0≤i∧i < g.length)∧k=rd p i:=fun k k0 k1=>by
  obtain⟨i,hi,e⟩:=hp.onto k0 (by omega)
  exact⟨(i:Int),by omega,e.symm⟩
 have hen:∀i:Int,0≤i→i < g.length→0≤rd p i∧rd p i < g.length:=fun i i0 i1=>by
  have:=hp.ent i.toNat (by omega)
  rwa[Int.toNat_of_nonneg i0]at this
 refine⟨by omega,by omega,fun a a0 a1 => ?_,fun a b a0 a1 b0 b1 => ?_,fun a a0 a1 => ?_,fun a a0 a1 => ?_,fun a b c a0 a1 b0 b1 c0 c1 => ?_,fun a a0 a1 => ?_⟩
 ·
  have:=hr a.toNat (by omega)
  rw[Int.toNat_of_nonneg a0]at this
  omega
 ·
  obtain⟨i,⟨i0,i1⟩,rfl⟩:=hon a a0 a1
  obtain⟨j,⟨j0,j1⟩,rfl⟩:=hon b b0 b1
  obtain⟨t0,t1⟩:=hg.ent i j i0 i1 j0 j1
  rw[hTi i j i0 i1 j0 j1,hl]
  exact hen _ t0 t1
 ·
  obtain⟨i,⟨i0,i1⟩,rfl⟩:=hon a a0 a1
  have:=hTi 0 i (by omega) (by omega) i0 i1
  rw[h0,hg.one i i0 i1]at this
  exact this
 ·
  obtain⟨i,⟨i0,i1⟩,rfl⟩:=hon a a0 a1
  have:=hTi i 0 i0 i1 (by omega) (by omega)
  rw[h0,hg.one' i i0 i1]at this
  exact this
 ·
  obtain⟨i,⟨i0,i1⟩,rfl⟩:=hon a a0 a1
  obtain⟨j,⟨j0,j1⟩,rfl⟩:=hon b b0 b1
  obtain⟨k,⟨k0,k1⟩,rfl⟩:=hon c c0 c1
  obtain⟨s0,s1⟩:=hg.ent i j i0 i1 j0 j1
  obtain⟨t0,t1⟩:=hg.ent j k j0 j1 k0 k1
  rw[hTi i j i0 i1 j0 j1,hTi _ k s0 s1 k0 k1,hTi j k j0 j1 k0 k1,hTi i _ i0 i1 t0 t1,hg.assoc i j k i0 i1 j0 j1 k0 k1]
 ·
  obtain⟨i,⟨i0,i1⟩,rfl⟩:=hon a a0 a1
  obtain⟨b,b0,b1,e⟩:=hg.inv i i0 i1
  refine⟨rd p b,(hen b b0 b1).1,by rw[hl];exact(hen b b0 b1).2,?_⟩
  rw[hTi i b i0 i1 b0 b1,e,h0]
end Go.Proofs.YthmcpmnhdbeahaaGreat.V
namespace Go.Proofs.YthmcpmnhdbeahaaGreat.V
open Go.RowKit Go.Proofs.YthmcpmnhdbeahaaGreat.D
def itf {α : Type} (f : α → α):Nat → α → α
 | 0,x=>x
 | k+1,x=>f (itf f k x)
theorem Zgk {α : Type} (f : α → α) (x : α) (j:Nat):∀k,itf f (k+j) x=itf f k (itf f j x):=by
 intro k
 induction k with
 | zero=>rw[Nat.zero_add];rfl
 | succ k ih=>rw[show k+1+j=(k+j)+1 by omega];show f (itf f (k+j) x)=f (itf f k (itf f j x));rw[ih]
theorem Zlm {α : Type} {f : α → α} {S:List α} (h:∀x∈S,f x∈S) {x : α} (hx:x∈S):∀k,itf f k x∈S:=by
 intro k
 induction k with
 | zero=>exact hx
 | succ k ih=>exact h _ ih
theorem Zg1 {α : Type} (p : α → Bool):∀l:List α,l.length=(l.filter p).length+(l.filter fun x => !p x).length
 | []=>rfl
 | x :: l=>by
  have:=Zg1 p l
  rw[List.filter_cons,List.filter_cons,List.length_cons]
  cases h:p x
  ·
   rw[if_neg (by decide),if_pos (by decide),List.length_cons];omega
  ·
   rw[if_pos rfl,if_neg (by decide),List.length_cons];omega
theorem ZjJ {α : Type} [DecidableEq α] (f : α → α) (d:Nat) (hd:0 < d):∀(n:Nat) (S:List α),S.length≤n→S.Nodup→(∀x∈S,f x∈S)→(∀x∈S,itf f d x=x)→(∀x∈S,∀k,0 < k→k < d→itf f k x≠x)→d∣S.length:=by
 intro n
 induction n with
 | zero=>intro S hn _ _ _ _;rw[show S.length=0 by omega];exact Nat.dvd_zero d
 | succ n ih =>
  intro S hn hnd hf hD hk
  cases S with
  | nil=>exact Nat.dvd_zero d
  | cons x0 S0 =>
   obtain⟨S,hS⟩:∃S,S=x0 :: S0:=⟨_,rfl⟩
   rw[←hS]at hn hnd hf hD hk ⊢
   have hx:x0∈S:=by rw[hS];exact List.mem_cons_self
   have mem:=Zlm hf hx
   obtain⟨O,hO⟩:∃O,O=(List.range d).map fun k=>itf f k x0:=⟨_,rfl⟩
   have hOl:O.length=d:=by rw[hO];simp
   have inj:∀i j,i < j→j < d→itf f i x0≠itf f j x0:=fun i j hij hj e=>by
    have e1:=Zgk f x0 i (j - i)
    rw[show j - i+i=j by omega]at e1
    rw[←e]at e1
    exact hk _ (mem i) (j - i) (by omega) (by omega) e1.symm
   have hOn:O.Nodup:=by
    rw[hO,List.Nodup,List.pairwise_map]
    exact List.Pairwise.imp_of_mem (fun {a b} ha hb h=>inj a b h (List.mem_range.1 hb)) (List.pairwise_lt_range (n:=d))
   have hOS:∀y∈O,y∈S:=fun y hy=>by
    rw[hO]at hy
    obtain⟨k,_,rfl⟩:=List.mem_map.1 hy
    exact mem k
   have hback:∀y∈S,f y∈O→y∈O:=fun y hy hfy=>by
    rw[hO]at hfy ⊢
    obtain⟨k,hk', e⟩:=List.mem_map.1 hfy
    have e1:y=itf f (d - 1+k) x0:=by
     rw[Zgk,e]
     have:=hD y hy
     rw[show d=d - 1+1 by omega,Zgk]at this
     exact this.symm
    rcases Nat.lt_or_ge (d - 1+k) d with q|q
    ·
     exact List.mem_map.2 ⟨d - 1+k,List.mem_range.2 q,e1.symm⟩
    ·
     have hkd:=List.mem_range.1 hk'
     refine List.mem_map.2 ⟨d - 1+k - d,List.mem_range.2 (by omega),?_⟩
     rw[e1,show d - 1+k=(d - 1+k - d)+d by omega,Zgk,hD x0 hx,show d - 1+k - d+d - d=d - 1+k - d by omega]
   have hlen:S.length=d+(S.filter fun y=>decide (y ∉ O)).length:=by
    have h1:(S.filter fun y=>decide (y∈O)).length=d:=by
     rw[←hOl]
     apply Nat.le_antisymm
     ·
      exact nd_le (hnd.filter _) fun y hy=>by simpa using (List.mem_filter.1 hy).2
     ·
      exact nd_le hOn fun y hy=>List.mem_filter.2 ⟨hOS y hy,by simpa using hy⟩
    have:=Zg1 (fun y=>decide (y∈O)) S
    rw[h1]at this
    rw[this]
    congr 2
    apply List.filter_congr
    intro y _
    simp
   rw[hlen]
   refine Nat.dvd_add (Nat.dvd_refl d) (ih _ (by omega) (hnd.filter _) (fun y hy => ?_) (fun y hy=>hD y (List.mem_filter.1 hy).1) (fun y hy=>hk y (List.mem_filter.1 hy).1))
   obtain⟨h1,h2⟩:=List.mem_filter.1 hy
   refine List.mem_filter.2 ⟨hf y h1,?_⟩
   have h2:y ∉ O:=by simpa using h2
   simpa using fun k=>h2 (hback y h1 k)
end Go.Proofs.YthmcpmnhdbeahaaGreat.V
namespace Go.Proofs.YthmcpmnhdbeahaaGreat.V
open Go.RowKit Go.Proofs.YthmcpmnhdbeahaaGreat.D Go.Proofs.YthmcpmnhdbeahaaGreat.P
def InN (N:Nat) (a:Int):Prop:=0≤a∧a < N
structure Gp (N:Nat) (M:Int→Int→Int):Prop where
 pos:0 < N
 ent:∀a b:Int,InN N a→InN N b→InN N (M a b)
 assoc:∀a b c:Int,InN N a→InN N b→InN N c→M (M a b) c=M a (M b c)
 one:∀a:Int,InN N a→M 0 a=a
 one' : ∀a:Int,InN N a→M a 0=a
 inv:∀a:Int,InN N a→∃b:Int,InN N b∧M a b=0
theorem Gp.zero {N:Nat} {M:Int→Int→Int} (h:Gp N M):InN N 0:=⟨by omega,by have:=h.pos;omega⟩
theorem Gp.inv2 {N:Nat} {M:Int→Int→Int} (h:Gp N M) {a:Int} (ha:InN N a):∃b:Int,InN N b∧M a b=0∧M b a=0:=by
 obtain⟨b,hb,e⟩:=h.inv a ha
 obtain⟨c,hc,e2⟩:=h.inv b hb
 have h1:=h.assoc a b c ha hb hc
 rw[e,e2,h.one c hc,h.one' a ha]at h1
 exact⟨b,hb,e,by rw[←h1];exact e2⟩
theorem Gp.cancel {N:Nat} {M:Int→Int→Int} (h:Gp N M) {a b c:Int} (ha:InN N a) (hb:InN N b) (hc:InN N c) (e:M a c=M b c):a=b:=by
 obtain⟨d,hd,e1,_⟩:=h.inv2 hc
 have h1:=h.assoc a c d ha hc hd
 have h2:=h.assoc b c d hb hc hd
 rw[e1,h.one' a ha]at h1
 rw[e1,h.one' b hb]at h2
 rw[←h1,←h2,e]
def numL (N:Nat):List Int:=(List.range N).map fun i:Nat=>(i:Int)
theorem Zgp (N:Nat):(numL N).length=N:=by simp[numL]
theorem Zez (N:Nat):(numL N).Nodup:=by
 unfold numL
 rw[List.Nodup,List.pairwise_map]
 exact(List.nodup_range (n:=N)).imp fun h e=>h (by omega)
theorem Zco {N:Nat} {x:Int}:x∈numL N↔InN N x:=by
 unfold numL
 rw[List.mem_map]
 constructor
 ·
  rintro⟨i,hi,rfl⟩
  have:=List.mem_range.1 hi
  exact⟨by omega,by omega⟩
 ·
  rintro⟨h0,h1⟩
  exact⟨x.toNat,List.mem_range.2 (by omega),by omega⟩
theorem Gp.order_dvd {N:Nat} {M:Int→Int→Int} (h:Gp N M) {p:Int} (hp:InN N p) {d:Nat} (d0:0 < d) (hd:itf (fun q=>M q p) d 0=0) (hm:∀k,0 < k→k < d→itf (fun q=>M q p) k 0≠0):d∣N:=by
 have hin:∀k,InN N (itf (fun q=>M q p) k 0):=fun k=>by
  induction k with
  | zero=>exact h.zero
  | succ k ih=>exact h.ent _ _ ih hp
 have hx:∀x,InN N x→∀k,itf (fun q=>M q p) k x=M x (itf (fun q=>M q p) k 0):=fun x hx k=>by
  induction k with
  | zero=>exact(h.one' x hx).symm
  | succ k ih =>
   show M (itf (fun q=>M q p) k x) p=M x (M (itf (fun q=>M q p) k 0) p)
   rw[ih,h.assoc _ _ _ hx (hin k) hp]
 have:=ZjJ (fun q=>M q p) d d0 N (numL N) (by rw[Zgp];exact Nat.le_refl _) (Zez N) (fun x hx' => Zco.2 (h.ent _ _ (Zco.1 hx') hp)) (fun x hx' => by rw[hx x (Zco.1 hx'),hd,h.one' x (Zco.1 hx')]) (fun x hx' k k0 k1 e=>by
  rw[hx x (Zco.1 hx')]at e
  obtain⟨y,hy,e1,e2⟩:=h.inv2 (Zco.1 hx')
  have h1:=h.assoc y x _ hy (Zco.1 hx') (hin k)
  rw[e2,h.one _ (hin k),e,e2]at h1
  exact hm k k0 k1 h1)
 rwa[Zgp]at this
theorem Gp.sub_dvd {N:Nat} {M:Int→Int→Int} (h:Gp N M) {Z:List Int} (hn:Z.Nodup) (hz:∀z∈Z,InN N z) (h0:(0:Int)∈Z) (hcl:∀a∈Z,∀b∈Z,M a b∈Z) (hinv:∀a∈Z,∃b∈Z,M b a=0):Z.length∣N:=by
 obtain⟨Q,hQ⟩:∃Q:Int→Prop,∀x,Q x↔∀z∈Z,x≤M z x:=⟨_,fun _=>Iff.rfl⟩
 obtain⟨K,hK⟩:∃K,K=(numL N).filter fun x=>B (Q x):=⟨_,rfl⟩
 have hKm:∀r,r∈K↔InN N r∧Q r:=fun r=>by
  rw[hK,List.mem_filter,Zco]
  exact and_congr Iff.rfl B_iff
 have hKn:K.Nodup:=by rw[hK];exact(Zez N).filter _
 have hF:(K.flatMap fun r=>Z.map fun z=>M z r).length=K.length*Z.length:=by
  have:∀l:List Int,(l.flatMap fun r=>Z.map fun z=>M z r).length=l.length*Z.length:=by
   intro l
   induction l with
   | nil=>simp
   | cons x l ih=>rw[List.flatMap_cons,List.length_append,ih,List.length_map,List.length_cons,Nat.succ_mul];omega
  exact this K
 have same:∀r s z w,r∈K→s∈K→z∈Z→w∈Z→M z r=M w s→r=s:=fun r s z w hr hs hz' hw e=>by
  obtain⟨r1,r2⟩:=(hKm r).1 hr
  obtain⟨s1,s2⟩:=(hKm s).1 hs
  obtain⟨w', hw', e1⟩:=hinv w hw
  obtain⟨z', hz'', e2⟩:=hinv z hz'
  have a1:s=M (M w' z) r:=by
   rw[h.assoc _ _ _ (hz _ hw') (hz _ hz') r1,e,←h.assoc _ _ _ (hz _ hw') (hz _ hw) s1,e1,h.one s s1]
  have a2:r=M (M z' w) s:=by
   rw[h.assoc _ _ _ (hz _ hz'') (hz _ hw) s1,←e,←h.assoc _ _ _ (hz _ hz'') (hz _ hz') r1,e2,h.one r r1]
  have b1:=(hQ r).1 r2 _ (hcl _ hw' _ hz')
  have b2:=(hQ s).1 s2 _ (hcl _ hz'' _ hw)
  rw[←a1]at b1
  rw[←a2]at b2
  omega
 have hFn:(K.flatMap fun r=>Z.map fun z=>M z r).Nodup:=by
  rw[List.Nodup,List.pairwise_flatMap]
  constructor
  ·
   intro r hr
   rw[List.pairwise_map]
   exact List.Pairwise.imp_of_mem (fun {p q} hp hq hne e=>hne (h.cancel (hz _ hp) (hz _ hq) ((hKm r).1 hr).1 e)) hn
  ·
   refine List.Pairwise.imp_of_mem (fun {r s} hr hs hne x hx y hy e=>hne ?_) hKn
   obtain⟨p,hp,rfl⟩:=List.mem_map.1 hx
   obtain⟨q,hq,rfl⟩:=List.mem_map.1 hy
   exact same r s p q hr hs hp hq e
 have least:∀x:Int,∀L:List Int,L≠[]→∃a∈L,∀b∈L,M a x≤M b x:=by
  intro x L
  induction L with
  | nil=>intro q;exact absurd rfl q
  | cons y L ih =>
   intro _
   by_cases hL:L=[]
   ·
    subst hL
    exact⟨y,by simp,fun b hb=>by rw[List.mem_singleton]at hb;rw[hb];exact Int.le_refl _⟩
   ·
    obtain⟨a,ha,hmin⟩:=ih hL
    by_cases q:M y x≤M a x
    ·
     refine⟨y,by simp,fun b hb => ?_⟩
     rcases List.mem_cons.1 hb with rfl|hb
     ·
      exact Int.le_refl _
     ·
      have:=hmin b hb;omega
    ·
     refine⟨a,List.mem_cons_of_mem _ ha,fun b hb => ?_⟩
     rcases List.mem_cons.1 hb with rfl|hb
     ·
      omega
     ·
      exact hmin b hb
 have hmem:∀x,x∈numL N↔x∈K.flatMap fun r=>Z.map fun z=>M z r:=fun x=>by
  rw[List.mem_flatMap]
  constructor
  ·
   intro hx
   have hx:=Zco.1 hx
   obtain⟨a,ha,hmin⟩:=least x Z (fun e=>by rw[e]at h0;cases h0)
   obtain⟨w,hw,e⟩:=hinv a ha
   refine⟨M a x,(hKm _).2 ⟨h.ent _ _ (hz _ ha) hx,(hQ _).2 fun z hz' => ?_⟩,List.mem_map.2 ⟨w,hw,?_⟩⟩
   ·
    rw[←h.assoc _ _ _ (hz _ hz') (hz _ ha) hx]
    exact hmin _ (hcl _ hz' _ ha)
   ·
    rw[←h.assoc _ _ _ (hz _ hw) (hz _ ha) hx,e,h.one x hx]
  ·
   rintro⟨r,hr,hx⟩
   obtain⟨z,hz', rfl⟩:=List.mem_map.1 hx
   exact Zco.2 (h.ent _ _ (hz _ hz') ((hKm r).1 hr).1)
 have l1:=nd_le (Zez N) fun x hx=>(hmem x).1 hx
 have l2:=nd_le hFn fun x hx=>(hmem x).2 hx
 rw[Zgp]at l1 l2
 exact⟨K.length,by rw[Nat.mul_comm,←hF];omega⟩
end Go.Proofs.YthmcpmnhdbeahaaGreat.V
set_option maxRecDepth 100000
namespace Go.Proofs.YthmcpmnhdbeahaaGreat.P
open Go Go.RowKit Go.Proofs.YthmcpmnhdbeahaaGreat.D
end Go.Proofs.YthmcpmnhdbeahaaGreat.P
namespace Go.Proofs.YthmcpmnhdbeahaaGreat.P
open Go Go.RowKit Go.Proofs.YthmcpmnhdbeahaaGreat.D
end Go.Proofs.YthmcpmnhdbeahaaGreat.P
namespace Go.Proofs.YthmcpmnhdbeahaaGreat.P
open Go Go.RowKit Go.Proofs.YthmcpmnhdbeahaaGreat.D
end Go.Proofs.YthmcpmnhdbeahaaGreat.P
namespace Go.Proofs.YthmcpmnhdbeahaaGreat.P
open Go Go.RowKit Go.Proofs.YthmcpmnhdbeahaaGreat.D
end Go.Proofs.YthmcpmnhdbeahaaGreat.P
namespace Go.Proofs.YthmcpmnhdbeahaaGreat.P
open Go Go.RowKit Go.Proofs.YthmcpmnhdbeahaaGreat.D
end Go.Proofs.YthmcpmnhdbeahaaGreat.P
namespace Go.Proofs.YthmcpmnhdbeahaaGreat.P
open Go Go.RowKit Go.Proofs.YthmcpmnhdbeahaaGreat.D
end Go.Proofs.YthmcpmnhdbeahaaGreat.P
namespace Go.Proofs.YthmcpmnhdbeahaaGreat.P
open Go Go.RowKit Go.Proofs.YthmcpmnhdbeahaaGreat.D
end Go.Proofs.YthmcpmnhdbeahaaGreat.P
namespace Go.Proofs.YthmcpmnhdbeahaaGreat.P
open Go Go.RowKit Go.Proofs.YthmcpmnhdbeahaaGreat.D
end Go.Proofs.YthmcpmnhdbeahaaGreat.P
set_option maxHeartbeats 2000000
set_option maxRecDepth 20000
namespace Go.Proofs.YthmcpmnhdbeahaaGreat.V
open Go.RowKit Go.Proofs.YthmcpmnhdbeahaaGreat.D Go.Proofs.YthmcpmnhdbeahaaGreat.P
end Go.Proofs.YthmcpmnhdbeahaaGreat.V
set_option maxHeartbeats 4000000
namespace Go.Proofs.YthmcpmnhdbeahaaGreat.V
open Go.RowKit Go.Proofs.YthmcpmnhdbeahaaGreat.D Go.Proofs.YthmcpmnhdbeahaaGreat.P
theorem emodS {m a b:Int} (h:m∣a - b):a%m=b%m:=Int.emod_eq_emod_iff_emod_sub_eq_zero.2 (Int.emod_eq_zero_of_dvd h)
theorem dvdM (m a:Int):m∣a - a%m:=Int.dvd_self_sub_emod
theorem At_z1 {g:List (List Int)} {v:List Int} (y:Int):At g v [0,y]=0:=by
 unfold At
 exact ZbP (fun q=>q 0 (by omega) (by simp) rfl) _ _
theorem At_z2 {g:List (List Int)} {v:List Int} (x:Int):At g v [x,0]=0:=by
 unfold At
 exact ZbP (fun q=>q 1 (by omega) (by simp) rfl) _ _
theorem ZlK {g:List (List Int)} {u v:List Int} {x y z:Int}:Bd g u v [x,y,z] 2=rd u x*At g v [y,z] - At g v [T g x y,z]+At g v [x,T g y z] - At g v [x,y]:=by
 simp only[Bd,bsum,join2,List.take_zero,List.nil_append,List.drop_succ_cons,List.drop_zero,List.take_succ_cons]
 have e0:rd [x,y,z] 0=x:=rfl
 have e1:rd [x,y,z] ((0+1:Nat):Int)=y:=rfl
 have e2:rd [x,y,z] ((0:Nat):Int)=x:=rfl
 have e3:rd [x,y,z] ((1+1:Nat):Int)=z:=rfl
 have e4:rd [x,y,z] ((1:Nat):Int)=y:=rfl
 simp only[e0,e1,e2,e3,e4,List.append_nil,List.singleton_append,List.cons_append,List.nil_append]
 omega
theorem cocy3 {g:List (List Int)} (hg:Grp g) {m:Int} {u v:List Int} (hm:Mdl g m u) (hy:Cocy g m u v 2) {x y z:Int} (x0:0≤x) (x1:x < g.length) (y0:0≤y) (y1:y < g.length) (z0:0≤z) (z1:z < g.length) :
  m∣rd u x*At g v [y,z] - At g v [T g x y,z]+At g v [x,T g y z] - At g v [x,y]:=by
 by_cases hx:x=0
 ·
  subst hx
  rw[hm.one hg,hg.one y y0 y1,At_z1,At_z1]
  exact⟨0,by omega⟩
 by_cases hy0:y=0
 ·
  subst hy0
  rw[hg.one' x x0 x1,hg.one z z0 z1,At_z1,At_z2]
  exact⟨0,by omega⟩
 by_cases hz0:z=0
 ·
  subst hz0
  rw[hg.one' y y0 y1,At_z2,At_z2]
  exact⟨0,by omega⟩
 have hin:AllIn g.length [x,y,z]:=Zhp x0 x1 y0 y1 z0 z1
 have hno:Zci [x,y,z]:=fun j j0 j1=>by
  have hj:j=0∨j=1∨j=2:=by simp at j1;omega
  rcases hj with rfl|rfl|rfl
  ·
   exact hx
  ·
   exact hy0
  ·
   exact hz0
 obtain⟨i0,i1⟩:=Zjq hg (e:=3) (by omega) hin rfl hno
 have h:=hy (idx g [x,y,z]) i0 (by
  have:(cells g ((2+1:Nat):Int)).toNat=nB g 3:=rfl
  omega)
 unfold bdV at h
 have hl:=Zjz (g:=g) 3 [x,y,z] rfl (fun a ha=>by
  have h1:=hin.mem ha
  have h2:¬ a=0:=by
   rcases List.mem_cons.1 ha with rfl|ha
   ·
    exact hx
   rcases List.mem_cons.1 ha with rfl|ha
   ·
    exact hy0
   ·
    rw[List.mem_singleton]at ha
    rw[ha];exact hz0
  omega)
 rw[Int.toNat_of_nonneg i0,hl,ZlK]at h
 exact Int.dvd_of_emod_eq_zero h
theorem ZcV {g:List (List Int)} (hg:Grp g) {m:Int} {u v:List Int} (hm:Mdl g m u) {p q:Int} (p0:0≤p) (p1:p < g.length*m) (q0:0≤q) (q1:q < g.length*m) :
  (0≤ext g m u v p q∧ext g m u v p q < g.length*m)∧ext g m u v p q / m=T g (p / m) (q / m)∧ext g m u v p q%m=(p%m+rd u (p / m)*(q%m)+At g v [p / m,q / m])%m:=by
 have m2:=hm.m2
 obtain⟨x0,x1,a0,a1⟩:=parts (show 0 < m by omega) p0 p1
 obtain⟨y0,y1,b0,b1⟩:=parts (show 0 < m by omega) q0 q1
 obtain⟨t0,t1⟩:=hg.ent _ _ x0 x1 y0 y1
 have e1:0≤m*T g (p / m) (q / m):=Int.mul_nonneg (by omega) t0
 have e2:m*T g (p / m) (q / m)≤m*(g.length - 1):=Int.mul_le_mul_of_nonneg_left (by omega) (by omega)
 have e3:m*((g.length:Int) - 1)=g.length*m - m:=by rw[Int.mul_sub,Int.mul_comm];omega
 have f0:=Int.emod_nonneg (p%m+rd u (p / m)*(q%m)+At g v [p / m,q / m]) (show m≠0 by omega)
 have f1:=Int.emod_lt_of_pos (p%m+rd u (p / m)*(q%m)+At g v [p / m,q / m]) (show 0 < m by omega)
 unfold ext
 refine⟨⟨by omega,by omega⟩,?_,?_⟩
 ·
  rw[Int.mul_add_ediv_left _ _ (by omega),Int.ediv_eq_zero_of_lt f0 f1,Int.add_zero]
 ·
  rw[Int.mul_add_emod_self_left,Int.emod_emod_of_dvd _ (Int.dvd_refl m)]
theorem Zd0 {m p q:Int} (h1:p / m=q / m) (h2:p%m=q%m):p=q:=by
 have a:=Int.mul_ediv_add_emod p m
 have b:=Int.mul_ediv_add_emod q m
 rw[h1,h2]at a
 omega
theorem Zjg {g:List (List Int)} (hg:Grp g) {m:Int} {u v:List Int} (hm:Mdl g m u) (hy:Cocy g m u v 2) {p q r:Int} (p0:0≤p) (p1:p < g.length*m) (q0:0≤q) (q1:q < g.length*m) (r0:0≤r) (r1:r < g.length*m) :
  ext g m u v (ext g m u v p q) r=ext g m u v p (ext g m u v q r):=by
 have m2:=hm.m2;have hlu:=hm.len
 obtain⟨x0,x1,_,_⟩:=parts (show 0 < m by omega) p0 p1
 obtain⟨y0,y1,_,_⟩:=parts (show 0 < m by omega) q0 q1
 obtain⟨z0,z1,_,_⟩:=parts (show 0 < m by omega) r0 r1
 obtain⟨⟨a0,a1⟩,a2,a3⟩:=ZcV (v:=v) hg hm p0 p1 q0 q1
 obtain⟨⟨b0,b1⟩,b2,b3⟩:=ZcV (v:=v) hg hm q0 q1 r0 r1
 obtain⟨_,c2,c3⟩:=ZcV (v:=v) hg hm a0 a1 r0 r1
 obtain⟨_,d2,d3⟩:=ZcV (v:=v) hg hm p0 p1 b0 b1
 obtain⟨k,hk⟩:=cocy3 hg hm hy x0 x1 y0 y1 z0 z1
 refine Zd0 (m:=m) ?_ ?_
 ·
  rw[c2,d2,a2,b2,hg.assoc _ _ _ x0 x1 y0 y1 z0 z1]
 ·
  rw[c3,d3,a2,b2,a3,b3,hm.hom _ x0 (by omega) _ y0 (by omega)]
  refine emodS ?_
  obtain⟨k1,h1⟩:=dvdM m (p%m+rd u (p / m)*(q%m)+At g v [p / m,q / m])
  obtain⟨k2,h2⟩:=dvdM m (rd u (p / m)*rd u (q / m))
  obtain⟨k3,h3⟩:=dvdM m (q%m+rd u (q / m)*(r%m)+At g v [q / m,r / m])
  refine⟨-k1 - k2*(r%m)+rd u (p / m)*k3 - k,?_⟩
  have e1:(p%m+rd u (p / m)*(q%m)+At g v [p / m,q / m])%m=p%m+rd u (p / m)*(q%m)+At g v [p / m,q / m] - m*k1:=by omega
  have e2:rd u (p / m)*rd u (q / m)%m=rd u (p / m)*rd u (q / m) - m*k2:=by omega
  have e3:(q%m+rd u (q / m)*(r%m)+At g v [q / m,r / m])%m=q%m+rd u (q / m)*(r%m)+At g v [q / m,r / m] - m*k3:=by omega
  rw[e1,e2,e3]
  simp only[Int.mul_add,Int.mul_sub,Int.sub_mul,Int.add_mul,Int.mul_neg,Int.mul_assoc,Int.mul_left_comm (rd u (p / m)) m k3]
  omega
theorem ZlN {g:List (List Int)} (hg:Grp g) {m:Int} {u v:List Int} (hm:Mdl g m u) (hc:Co g m 2 v) (hy:Cocy g m u v 2) {N:Nat} (hN:(N:Int)=g.length*m):Gp N (T (extT g m u v N)):=by
 have m2:=hm.m2;have n1:=hg.n1;have hlu:=hm.len
 obtain⟨hs,one,N0⟩:=Zjj hg hm hc hN
 have hT:∀p q:Int,InN N p→InN N q→T (extT g m u v N) p q=ext g m u v p q:=fun p q hp hq=>by
  obtain⟨a,rfl⟩:=Int.eq_ofNat_of_zero_le hp.1
  obtain⟨b,rfl⟩:=Int.eq_ofNat_of_zero_le hq.1
  exact(ext_T (by have:=hp.2;omega) (by have:=hq.2;omega)).2
 have hE:∀p q:Int,InN N p→InN N q→InN N (T (extT g m u v N) p q):=fun p q hp hq=>hs.ent p q hp.1 hp.2 hq.1 hq.2
 have bd:∀p:Int,InN N p→0≤p∧p < g.length*m:=fun p hp=>⟨hp.1,by have:=hp.2;omega⟩
 refine⟨N0,hE,fun a b c ha hb hc' => ?_,fun a ha=>one a ha.1 ha.2,fun a ha => ?_,fun a ha => ?_⟩
 ·
  rw[hT _ _ (hE _ _ ha hb) hc', hT _ _ ha (hE _ _ hb hc'),hT _ _ ha hb,hT _ _ hb hc', Zjg hg hm hy (bd a ha).1 (bd a ha).2 (bd b hb).1 (bd b hb).2 (bd c hc').1 (bd c hc').2]
 ·
  have h0:InN N 0:=⟨by omega,by omega⟩
  obtain⟨x0,x1,a0,a1⟩:=parts (show 0 < m by omega) (bd a ha).1 (bd a ha).2
  rw[hT _ _ ha h0]
  obtain⟨_,e2,e3⟩:=ZcV (v:=v) hg hm (bd a ha).1 (bd a ha).2 (bd 0 h0).1 (bd 0 h0).2
  refine Zd0 (m:=m) ?_ ?_
  ·
   rw[e2,Int.zero_ediv,hg.one' _ x0 x1]
  ·
   rw[e3,Int.zero_ediv,At_z2,Int.zero_emod,Int.mul_zero,Int.add_zero,Int.add_zero,Int.emod_emod_of_dvd _ (Int.dvd_refl m)]
 ·
  obtain⟨x0,x1,a0,a1⟩:=parts (show 0 < m by omega) (bd a ha).1 (bd a ha).2
  obtain⟨y,y0,y1,hxy⟩:=hg.inv _ x0 x1
  obtain⟨s,hs'⟩:∃s,s=a%m+At g v [a / m,y]:=⟨_,rfl⟩
  obtain⟨b,hb⟩:∃b,b=(-(rd u y*s))%m:=⟨_,rfl⟩
  have b0:0≤b:=by rw[hb];exact Int.emod_nonneg _ (by omega)
  have b1:b < m:=by rw[hb];exact Int.emod_lt_of_pos _ (by omega)
  have e1:0≤m*y:=Int.mul_nonneg (by omega) y0
  have e2:m*y≤m*(g.length - 1):=Int.mul_le_mul_of_nonneg_left (by omega) (by omega)
  have e3:m*((g.length:Int) - 1)=g.length*m - m:=by rw[Int.mul_sub,Int.mul_comm];omega
  have hq:InN N (m*y+b):=⟨by omega,by omega⟩
  have q1:(m*y+b) / m=y:=by rw[Int.mul_add_ediv_left _ _ (by omega),Int.ediv_eq_zero_of_lt b0 b1,Int.add_zero]
  have q2:(m*y+b)%m=b:=by rw[Int.mul_add_emod_self_left,Int.emod_eq_of_lt b0 b1]
  refine⟨m*y+b,hq,?_⟩
  obtain⟨_,f2,f3⟩:=ZcV (v:=v) hg hm (bd a ha).1 (bd a ha).2 (bd _ hq).1 (bd _ hq).2
  rw[q1]at f2 f3
  rw[q2]at f3
  rw[hT _ _ ha hq]
  have hx:=hm.hom _ x0 (by omega) _ y0 (by omega)
  rw[hxy,hm.one hg]at hx
  refine Zd0 (m:=m) ?_ ?_
  ·
   rw[f2,hxy,Int.zero_ediv]
  ·
   rw[f3,Int.zero_emod]
   refine Int.emod_eq_zero_of_dvd ?_
   obtain⟨k1,h1⟩:=dvdM m (-(rd u y*s))
   obtain⟨k2,h2⟩:=dvdM m (rd u (a / m)*rd u y)
   rw[←hb]at h1
   rw[←hx]at h2
   have e4:b = -(rd u y*s) - m*k1:=by omega
   have e5:rd u (a / m)*rd u y=1+m*k2:=by omega
   have e6:rd u (a / m)*b = -(s+m*(k2*s)) - m*(rd u (a / m)*k1):=by
    rw[e4,Int.mul_sub,Int.mul_neg,←Int.mul_assoc,e5,Int.add_mul,Int.one_mul,Int.mul_assoc,Int.mul_left_comm (rd u (a / m)) m k1]
   refine⟨-(k2*s) - rd u (a / m)*k1,?_⟩
   rw[e6,Int.mul_sub,Int.mul_neg]
   omega
theorem ZhR (f:Int→Int) (x:Int):∀k,seq f x k=itf f k x
 | 0=>rfl
 | k+1=>by
  show f (seq f x k)=f (itf f k x)
  rw[ZhR f x k]
end Go.Proofs.YthmcpmnhdbeahaaGreat.V
namespace Go.Proofs.YthmcpmnhdbeahaaGreat.V
open Go Go.RowKit Go.Proofs.YthmcpmnhdbeahaaGreat.D Go.Proofs.YthmcpmnhdbeahaaGreat.P
theorem ZfK (g:List (List Int)) (hl:g.length≤maxLen) (hr:∀r∈g,r.length≤maxLen) (m:Int) (u:List Int) (hu:u.length≤maxLen) (v:List Int) (hv:v.length≤maxLen) (hg:Grp g) (hm:Mdl g m u) (hc:Co g m 2 v) :
  ∃(b:Bool) (c:Int),ZaP.f g m u 2 v=some (b,c)∧(c=0→b=B (Sp m (nB g 2) (bdG g m u 2) (V v))):=by
 have hcI:=ZgZ hg m u 2 v hv
 rw[B_pos hc]at hcI
 have hA:=Zfb g hl hr m u hu
 rw[B_pos ⟨hg,hm⟩]at hA
 have l1:([((2:Int),v)]:List (Int×List Int)).length=1:=rfl
 have hcode:ZH.f g m u [(2,v)]=some 0:=by
  have e1:(Ty.rd (.pr (.int .i64) (.sl 2 (.int .i64))) [((2:Int),v)] 0)=(2,v):=rfl
  rw[ZH.f_eq,hA,Option.bind_some,if_pos rfl,ZH.l0_eq,l1,if_pos (by omega),if_pos (by omega),if_pos (by omega),e1]
  dsimp only
  rw[hcI,Option.bind_some,if_pos rfl,ZH.l0_eq,w64 (by omega) (by omega),if_neg (by omega)]
 have hR:=Zjs hg (k:=2) (by omega)
 have hR:Za3.f g 2=some (B (nB g 2≤49)):=hR
 have hb:=Zhz hg hm (k:=2) hc
 have hb:ZaQ.f g m u 2 v=some (B (Sp m (nB g 2) (bdG g m u 2) (V v))):=hb
 rw[ZaP.f_eq,ZaG.f_eq,hcode,Option.bind_some,if_pos rfl,hR,Option.bind_some]
 by_cases h:nB g 2≤49
 ·
  rw[B_pos h,if_pos rfl,Option.bind_some,if_pos rfl,hb]
  refine⟨_,0,rfl,fun _ => ?_⟩
  by_cases q:Sp m (nB g 2) (bdG g m u 2) (V v)
  ·
   rw[B_pos q];rfl
  ·
   rw[B_neg q];rfl
 ·
  rw[B_neg h,if_neg (by decide),Option.bind_some,if_neg (by decide)]
  exact⟨false,3,rfl,fun q=>by omega⟩
theorem Zju (n:Nat) (p:Nat→Bool) (x:Int):x∈kept n p↔∃i:Nat,i < n∧p i=true∧x=(i:Int):=by
 unfold kept
 rw[List.mem_map]
 constructor
 ·
  rintro⟨i,hi,rfl⟩
  rw[List.mem_filter,List.mem_range]at hi
  exact⟨i,hi.1,hi.2,rfl⟩
 ·
  rintro⟨i,h1,h2,rfl⟩
  exact⟨i,List.mem_filter.2 ⟨List.mem_range.2 h1,h2⟩,rfl⟩
theorem ZiB (n:Nat) (p:Nat→Bool):(kept n p).Nodup:=by
 unfold kept
 rw[List.Nodup,List.pairwise_map]
 exact((List.nodup_range (n:=n)).filter p).imp fun h e=>h (by omega)
theorem Ziv {e:List (List Int)} {N:Nat} (h:Gp N (T e)):(kept N (comm e N)).length∣N∧0 < (kept N (comm e N)).length:=by
 have hmem:∀x,x∈kept N (comm e N)↔InN N x∧∀y,InN N y→T e x y=T e y x:=fun x=>by
  rw[Zju]
  unfold comm
  constructor
  ·
   rintro⟨i,h1,h2,rfl⟩
   refine⟨⟨by omega,by omega⟩,fun y hy => ?_⟩
   rw[List.all_eq_true]at h2
   have:=h2 y.toNat (List.mem_range.2 (by have:=hy.2;have:=hy.1;omega))
   rw[decide_eq_true_eq,Int.toNat_of_nonneg hy.1]at this
   exact this
  ·
   rintro⟨⟨h1,h2⟩,h3⟩
   refine⟨x.toNat,by omega,?_,by omega⟩
   rw[List.all_eq_true]
   intro q hq
   have:=List.mem_range.1 hq
   rw[decide_eq_true_eq,Int.toNat_of_nonneg h1]
   exact h3 _ ⟨by omega,by omega⟩
 have h0:(0:Int)∈kept N (comm e N):=(hmem 0).2 ⟨h.zero,fun y hy=>by rw[h.one y hy,h.one' y hy]⟩
 refine⟨h.sub_dvd (ZiB _ _) (fun z hz=>((hmem z).1 hz).1) h0 (fun a ha b hb => ?_) (fun a ha => ?_),List.length_pos_of_mem h0⟩
 ·
  obtain⟨a1,a2⟩:=(hmem a).1 ha
  obtain⟨b1,b2⟩:=(hmem b).1 hb
  refine(hmem _).2 ⟨h.ent _ _ a1 b1,fun y hy => ?_⟩
  rw[h.assoc _ _ _ a1 b1 hy,b2 y hy,←h.assoc _ _ _ a1 hy b1,a2 y hy,h.assoc _ _ _ hy a1 b1]
 ·
  obtain⟨a1,a2⟩:=(hmem a).1 ha
  obtain⟨b,hb,e1,e2⟩:=h.inv2 a1
  refine⟨b,(hmem b).2 ⟨hb,fun y hy => ?_⟩,e2⟩
  have h1:T e (T e b y) a=T e (T e y b) a:=by
   rw[h.assoc _ _ _ hb hy a1,←a2 y hy,←h.assoc _ _ _ hb a1 hy,e2,h.one y hy,h.assoc _ _ _ hy hb a1,e2,h.one' y hy]
  exact h.cancel (h.ent _ _ hb hy) (h.ent _ _ hy hb) a1 h1
theorem Zle (g:List (List Int)) (m:Int) (u:List Int) (d:Int) (v:List Int) (hl:g.length≤maxLen) (hr:∀r∈g,r.length≤maxLen) (hu:u.length≤maxLen) (hv:v.length≤maxLen) :
    ∃(R:List (List Int)) (c:Int) (b:Bool) (S:List Int) (c3:Int) (O Z:List Int) (b6:Bool) (c6:Int),
      (Zaa.f g m u d v=some (R,c)∧Zac.f g m u d v=some (R,c))∧(Zbn.f g m u d v=some (b,c)∧Zbo.f g m u d v=some (b,c)) ∧
      (Zat.f g m u d v=some (S,c3)∧Zau.f g m u d v=some (S,c3))∧(ZR.f g m u d v=some (O,c)∧Zg.f g m u d v=some (O,c)) ∧
      (ZQ.f g m u d v=some (Z,c)∧Ze.f g m u d v=some (Z,c)) ∧
      ((R.length≤1048576∧∀r∈R,r.length≤1048576)∧S.length≤1048576∧O.length≤1048576∧Z.length≤1048576) ∧
      ((¬ c=0∧R=[])∨(c=0∧d=2∧Grp g∧Mdl g m u∧ZaP.f g m u 2 v=some (b6,c6)∧(c6=0→b6=b)∧(b=true↔c3=0)∧∃N:Nat,(N:Int)=g.length*m∧N≤64∧R=extT g m u v N ∧
        (∀p:Nat,p < N→∃k:Nat,rd O (p:Int)=(k:Int)∧1≤k∧k∣N)∧O.length=N∧0 < N∧rd O 0=1∧Z.length∣N∧0 < Z.length∧(S=[]∨Ext g m u v [] S))):=by
  obtain⟨R,c,t1,t2,t3,t4,t5,t6,t7⟩:=Zd3 g m u d v hl hr hu hv
  obtain⟨b,cb,s1,s2,s3,s4,s5⟩:=Zhx g m u d v hl hr hu hv
  obtain⟨S,cs,f1,f2,f3,c0,f4,f5,f6⟩:=Zev g m u d v hl hr hu hv
  obtain⟨O,co,o1,o2,o3,o4,o5,o6⟩:=Zdq g m u d v hl hr hu hv
  obtain⟨Z,cz,z1,z2,z3,z4,z5,z6⟩:=Zdp g m u d v hl hr hu hv
  have same:∀{x:Int},ZM.f g m u d v 64=some x→x=c:=fun h=>by
    rw[t5]at h
    exact(Option.some.inj h).symm
  obtain rfl:=same s3
  obtain rfl:=same f4
  obtain rfl:=same o4
  obtain rfl:=same z4
  by_cases hc0:cz=0
  rotate_left
  · exact⟨R,_,b,S,cs,O,Z,false,0,⟨t2,t1⟩,⟨s2,s1⟩,⟨f2,f1⟩,⟨o2,o1⟩,⟨z2,z1⟩,⟨⟨t3,t4⟩,f3,o3,z3⟩,.inl ⟨hc0,t6 hc0⟩⟩
  subst hc0
  rcases factor g hl hr m u hu d v hv 64 with ⟨rfl,hg,hm,hc,hy,h64,_,cI⟩|⟨c', c0', _,cI⟩
  rotate_left
  · rw[t5]at cI
    exact absurd (Option.some.inj cI).symm c0'
  obtain⟨b6,c6,e6,h6⟩:=ZfK g hl hr m u hu v hv hg hm hc
  obtain⟨N,hN⟩:=ext_N hg hm
  have hG:=ZlN hg hm hc hy hN
  have hO:=o6 rfl N hN
  have hZ:=z6 rfl N hN
  obtain⟨s6,s7⟩:=s5 rfl
  obtain⟨zd,z0⟩:=Ziv hG
  refine⟨R,0,b,S,cs,O,Z,b6,c6,⟨t2,t1⟩,⟨s2,s1⟩,⟨f2,f1⟩,⟨o2,o1⟩,⟨z2,z1⟩,⟨⟨t3,t4⟩,f3,o3,z3⟩,.inr ⟨rfl,rfl,hg,hm,e6,fun h => ?_,?_,N,hN,by omega,t7 rfl N hN,fun p hp => ?_,hO.1,hG.pos,?_,by rw[hZ];exact zd,by rw[hZ];exact z0,?_⟩⟩
  · rw[h6 h]
    cases b with
    | true=>exact B_pos (s7.1 rfl)
    | false=>exact B_neg fun q=>by have:=s7.2 q;simp at this
  · rcases f6 rfl with ⟨q,h⟩|⟨q,_,h⟩
    · exact⟨fun _=>q,fun _=>s6.2 ⟨_,h⟩⟩
    · refine⟨fun hb => ?_,fun h' => by omega⟩
      obtain⟨r,hr'⟩:=s6.1 hb
      exact absurd hr' (h r)
  · obtain⟨k,k1,k2,k3,k4,k5⟩:=hO.2 p hp
    refine⟨k,k1,k2,hG.order_dvd (p:=(p:Int)) ⟨by omega,by omega⟩ (by omega) (by rw[←ZhR];exact k4) fun j j0 j1 => ?_⟩
    rw[←ZhR]
    exact k5 j (by omega) j1
  · obtain ⟨k,k1,k2,k3,k4,k5⟩:=hO.2 0 hG.pos
    by_cases q:k=1
    · have k1:rd O 0=(k:Int):=k1
      rw[k1,q];rfl
    · refine absurd ?_ (k5 1 (by omega) (by omega))
      show T (extT g m u v N) 0 ((0:Nat):Int)=0
      exact hG.one 0 hG.zero
  · rcases f6 rfl with ⟨_,h⟩|⟨_,h,_⟩
    · exact .inr h
    · exact .inl h
end Go.Proofs.YthmcpmnhdbeahaaGreat.V
set_option maxRecDepth 100000
namespace Go.Proofs.YthmcpmnhdbeahaaGreat.P
open Go Go.RowKit Go.Proofs.YthmcpmnhdbeahaaGreat.D
end Go.Proofs.YthmcpmnhdbeahaaGreat.P
namespace Go.Proofs.YthmcpmnhdbeahaaGreat.P
open Go Go.RowKit Go.Proofs.YthmcpmnhdbeahaaGreat.D
end Go.Proofs.YthmcpmnhdbeahaaGreat.P
namespace Go.Proofs.YthmcpmnhdbeahaaGreat.P
open Go Go.RowKit Go.Proofs.YthmcpmnhdbeahaaGreat.D
end Go.Proofs.YthmcpmnhdbeahaaGreat.P
namespace Go.Proofs.YthmcpmnhdbeahaaGreat.P
open Go Go.RowKit Go.Proofs.YthmcpmnhdbeahaaGreat.D
end Go.Proofs.YthmcpmnhdbeahaaGreat.P
namespace Go.Proofs.YthmcpmnhdbeahaaGreat.P
open Go Go.RowKit Go.Proofs.YthmcpmnhdbeahaaGreat.D
end Go.Proofs.YthmcpmnhdbeahaaGreat.P
namespace Go.Proofs.YthmcpmnhdbeahaaGreat.P
open Go Go.RowKit Go.Proofs.YthmcpmnhdbeahaaGreat.D
end Go.Proofs.YthmcpmnhdbeahaaGreat.P
namespace Go.Proofs.YthmcpmnhdbeahaaGreat.P
open Go Go.RowKit Go.Proofs.YthmcpmnhdbeahaaGreat.D
end Go.Proofs.YthmcpmnhdbeahaaGreat.P
namespace Go.Proofs.YthmcpmnhdbeahaaGreat.P
open Go Go.RowKit Go.Proofs.YthmcpmnhdbeahaaGreat.D
end Go.Proofs.YthmcpmnhdbeahaaGreat.P
namespace Go.Proofs.YthmcpmnhdbeahaaGreat.P
open Go Go.RowKit Go.Proofs.YthmcpmnhdbeahaaGreat.D
end Go.Proofs.YthmcpmnhdbeahaaGreat.P
namespace Go.Proofs.YthmcpmnhdbeahaaGreat.P
open Go Go.RowKit Go.Proofs.YthmcpmnhdbeahaaGreat.D
end Go.Proofs.YthmcpmnhdbeahaaGreat.P
namespace Go.Proofs.YthmcpmnhdbeahaaGreat.P
open Go Go.RowKit Go.Proofs.YthmcpmnhdbeahaaGreat.D
end Go.Proofs.YthmcpmnhdbeahaaGreat.P
namespace Go.Proofs.YthmcpmnhdbeahaaGreat.P
open Go Go.RowKit Go.Proofs.YthmcpmnhdbeahaaGreat.D
end Go.Proofs.YthmcpmnhdbeahaaGreat.P
namespace Go.Proofs.YthmcpmnhdbeahaaGreat.P
open Go Go.RowKit Go.Proofs.YthmcpmnhdbeahaaGreat.D
end Go.Proofs.YthmcpmnhdbeahaaGreat.P
namespace Go.Proofs.YthmcpmnhdbeahaaGreat.P
open Go Go.RowKit Go.Proofs.YthmcpmnhdbeahaaGreat.D
end Go.Proofs.YthmcpmnhdbeahaaGreat.P
namespace Go.Proofs.YthmcpmnhdbeahaaGreat.P
open Go Go.RowKit Go.Proofs.YthmcpmnhdbeahaaGreat.D
end Go.Proofs.YthmcpmnhdbeahaaGreat.P
namespace Go.Proofs.YthmcpmnhdbeahaaGreat.P
open Go Go.RowKit Go.Proofs.YthmcpmnhdbeahaaGreat.D
end Go.Proofs.YthmcpmnhdbeahaaGreat.P
namespace Go.Proofs.YthmcpmnhdbeahaaGreat.P
open Go Go.RowKit Go.Proofs.YthmcpmnhdbeahaaGreat.D
end Go.Proofs.YthmcpmnhdbeahaaGreat.P
namespace Go.Proofs.YthmcpmnhdbeahaaGreat.P
open Go Go.RowKit Go.Proofs.YthmcpmnhdbeahaaGreat.D
end Go.Proofs.YthmcpmnhdbeahaaGreat.P
namespace Go.Proofs.YthmcpmnhdbeahaaGreat.P
open Go Go.RowKit Go.Proofs.YthmcpmnhdbeahaaGreat.D
end Go.Proofs.YthmcpmnhdbeahaaGreat.P
namespace Go.Proofs.YthmcpmnhdbeahaaGreat.P
open Go Go.RowKit Go.Proofs.YthmcpmnhdbeahaaGreat.D
end Go.Proofs.YthmcpmnhdbeahaaGreat.P
namespace Go.Proofs.YthmcpmnhdbeahaaGreat.P
open Go Go.RowKit Go.Proofs.YthmcpmnhdbeahaaGreat.D
end Go.Proofs.YthmcpmnhdbeahaaGreat.P
namespace Go.Proofs.YthmcpmnhdbeahaaGreat.R
open Go Go.RowKit Go.Proofs.YthmcpmnhdbeahaaGreat.D
theorem ti3:TiOk Tryz.prog 3 ⟨.int .i64,1,8,[.int .i64 0],(.int .i64),true⟩:=tiMk (show Tryz.prog.underlying 3=some (.int .i64)by kernel_rfl) (by kernel_rfl) (by kernel_rfl) (by kernel_rfl)
theorem ti4:TiOk Tryz.prog 4 ⟨.bool,1,1,[fls],.bool,true⟩:=tiMk (show Tryz.prog.underlying 4=some .bool by kernel_rfl) (by kernel_rfl) (by kernel_rfl) (by kernel_rfl)
theorem ti24:TiOk Tryz.prog 24 ⟨.sl 27,1,24,[.nil],(.sl 27 .raw),true⟩:=tiMk (show Tryz.prog.underlying 24=some (.slice 27)by kernel_rfl) (by kernel_rfl) (by kernel_rfl) (by kernel_rfl)
theorem ti27:TiOk Tryz.prog 27 ⟨.sl 2,1,24,[.nil],.raw,true⟩:=tiMk (show Tryz.prog.underlying 27=some (.slice 2)by kernel_rfl) (by kernel_rfl) (by kernel_rfl) (by kernel_rfl)
theorem ti137:TiOk Tryz.prog 137 ⟨.int .u64,1,8,[.int .u64 0],(.int .u64),true⟩:=tiMk (show Tryz.prog.underlying 137=some (.int .u64)by kernel_rfl) (by kernel_rfl) (by kernel_rfl) (by kernel_rfl)
theorem ti141:TiOk Tryz.prog 141 ⟨.int .u64,1,8,[.int .u64 0],(.int .u64),true⟩:=tiMk (show Tryz.prog.underlying 141=some (.int .u64)by kernel_rfl) (by kernel_rfl) (by kernel_rfl) (by kernel_rfl)
theorem ti173:TiOk Tryz.prog 173 ⟨.int .i64,1,8,[.int .i64 0],(.int .i64),true⟩:=tiMk (show Tryz.prog.underlying 173=some (.int .i64)by kernel_rfl) (by kernel_rfl) (by kernel_rfl) (by kernel_rfl)
theorem ti207:TiOk Tryz.prog 207 ⟨.int .u64,1,8,[.int .u64 0],(.int .u64),true⟩:=tiMk (show Tryz.prog.underlying 207=some (.int .u64)by kernel_rfl) (by kernel_rfl) (by kernel_rfl) (by kernel_rfl)
noncomputable def TT:List (Nat×TI):=[(3,⟨.int .i64,1,8,[.int .i64 0],(.int .i64),true⟩),(4,⟨.bool,1,1,[fls],.bool,true⟩),(24,⟨.sl 27,1,24,[.nil],(.sl 27 .raw),true⟩),(27,⟨.sl 2,1,24,[.nil],.raw,true⟩),(137,⟨.int .u64,1,8,[.int .u64 0],(.int .u64),true⟩),(141,⟨.int .u64,1,8,[.int .u64 0],(.int .u64),true⟩),(173,⟨.int .i64,1,8,[.int .i64 0],(.int .i64),true⟩),(207,⟨.int .u64,1,8,[.int .u64 0],(.int .u64),true⟩)]
theorem ttOk:TtOk Tryz.prog TT:=(ZbS ti3 (ZbS ti4 (ZbS ti24 (ZbS ti27 (ZbS ti137 (ZbS ti141 (ZbS ti173 (ZbS ti207 ttNil))))))))
theorem fnV (f:D.Fn) (E:Env) {R:Type} (enc:lsd (flats f.outs)×lsd (ios f.ins)→R) {g:FuncId} {fn:Func} {dec:R→lsd (flats f.outs)×lsd (ios f.ins)} (hE:EnvOk Tryz.prog E) (h:Tryz.prog.funcs[g]? = some fn) (h1:fn.body=some f.body:=by kernel_rfl)
  (h2 : (fn.name == "runtime.NumGoroutine") = false := by kernel_rfl)
  (h3:fn.results.toList=f.res:=by kernel_rfl) (h4:fn.ntmps=E.n:=by kernel_rfl) (h5:f.ins.length≤E.n:=by decide) (h6:roOk f.ins=true:=by kernel_rfl) (h7:(ZbQ f.ins 0).all (fun T=>Nat.blt T E.pin)=true:=by kernel_rfl) (h8:∀y,dec (enc y)=y:=by exact fun _=>rfl):Valid Tryz.prog g ⟨f.ins,f.outs,R,denF E f enc,dec⟩:=ZeZ hE (Checked.mixed Tryz.checked) ⟨h,h1,h2,h3,h4,h5,h6,h7⟩ h8
end Go.Proofs.YthmcpmnhdbeahaaGreat.R
