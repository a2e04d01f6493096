/- What the proof of the law CrossedMaps stands on, part 8: words, each Go function's Lean function, and that the Go code comes to its answers; no condition. (Packed by wip/myprint/pack.py out of what the kit's printer wrote, its words among it, partly by our patches of it, and out of texts of this session.) -/
import Derived.Sort.LotA
import Derived.Sort.LotB
import Derived.Sort.LotC
import Derived.Sort.LotD3
import Derived.Lib.ItoaNum
import Derived.Test.YthmcpmnhdbeahaaGreatKCrossedMaps3
import Derived.Test.YthmcpmnhdbeahaaGreatKCrossedMaps5
import Derived.Test.YthmcpmnhdbeahaaGreatKCrossedMaps6
import Derived.Test.YthmcpmnhdbeahaaGreatKCrossedMaps7
set_option linter.unusedVariables false
set_option linter.unusedSimpArgs false
set_option maxHeartbeats 4000000
set_option maxRecDepth 20000
namespace Go.Proofs.YthmcpmnhdbeahaaGreat.V
open Go.RowKit Go.Proofs.YthmcpmnhdbeahaaGreat.D Go.Proofs.YthmcpmnhdbeahaaGreat.P
theorem indexFunc (v:List Int) (hl:v.length≤1000000):(Zb v.length v∧Zh.f v (fun z0=>(Za4.f z0).map fun z=>z)=some (-1)) ∨
  ∃j:Nat,j < v.length∧Zb j v∧¬ rd v (j:Int)=0∧Zh.f v (fun z0=>(Za4.f z0).map fun z=>z)=some (j:Int):=by
 rw[Zh.f_eq]
 obtain⟨F,hF⟩:∃F:Int→Option Bool,F=fun z0=>(Za4.f z0).map fun z=>z:=⟨_,rfl⟩
 rw[←hF]
 have hf:∀x,F x=some (!decide (x=0)):=fun x=>by rw[hF];show Option.map _ (Za4.f x)=_;rw[Za4.f_eq];rfl
 suffices H:∀d k:Nat,k+d=v.length→Zb k v→(Zb v.length v∧Zh.l0 v F (v.length:Int) (k:Int)=some (-1)) ∨
   ∃j:Nat,j < v.length∧Zb j v∧¬ rd v (j:Int)=0∧Zh.l0 v F (v.length:Int) (k:Int)=some (j:Int)from
  H v.length 0 (by omega) (fun i hi=>by omega)
 intro d
 induction d with
 | zero =>
  intro k hd hz
  obtain rfl:k=v.length:=by omega
  refine .inl ⟨hz,?_⟩
  (rw[Zh.l0_eq])
  ((with_reducible repeat (first|refine Zq (by first|assumption|omega|rfl|exact B_pos (by omega)) ?_|refine Zp (by first|assumption|omega|decide|exact B_not (by omega)) ?_|refine Zk (by first|assumption) ?_|dsimp only));first|done|(with_reducible rfl)|simp (disch:=omega) only[w64]|(show False;done))
 | succ d ih =>
  intro k hd hz
  have hfk:=hf (rd v (k:Int))
  by_cases h:rd v (k:Int)=0
  ·
   have st:Zh.l0 v F (v.length:Int) (k:Int)=Zh.l0 v F (v.length:Int) ((k+1:Nat):Int):=by
    rw[h]at hfk
    rw[Zh.l0_eq,wn (j:=k) (by omega),h]
    (with_reducible repeat (first|refine Zq (by first|assumption|omega|rfl|exact B_pos (by omega)) ?_|refine Zp (by first|assumption|omega|decide|exact B_not (by omega)) ?_|refine Zk (by first|assumption) ?_|dsimp only))
   rw[st]
   refine ih (k+1) (by omega) fun i hi => ?_
   by_cases e:i=k
   ·
    rw[e];exact h
   ·
    exact hz i (by omega)
  ·
   refine .inr ⟨k,by omega,hz,h,?_⟩
   rw[Zh.l0_eq]
   (with_reducible repeat (first|refine Zq (by first|assumption|omega|rfl|exact B_pos (by omega)) ?_|refine Zp (by first|assumption|omega|decide|exact B_not (by omega)) ?_|refine Zk (by first|assumption) ?_|dsimp only))
   rw[decide_eq_false h]
   rfl
theorem ZeM (n:Nat) (i:Int):rd (List.replicate n (0:Int)) i=0:=by
 simp only[rd,List.getD_eq_getElem?_getD,List.getElem?_replicate]
 split <;> rfl
theorem Zl1 {m:Int} (m0:0 < m) (n:Nat):AllIn m (List.replicate n (0:Int)):=fun i _ _=>by rw[ZeM];omega
theorem Zi9 {m a b c e:Int} (h:m∣1*a+(-e)*b - c):m∣1*c+e*b - a:=by
 obtain⟨q,hq⟩:=h
 refine⟨-q,?_⟩
 rw[Int.mul_neg,←hq,Int.neg_mul]
 omega
theorem Zhl {d e:Int} (d0:0 < d):Int.tdiv (0 - d*e) d = -e:=by
 rw[show 0 - d*e=d*(-e)by rw[Int.mul_neg];omega]
 exact Int.mul_tdiv_cancel_left _ (by omega)
theorem ZgZ (st:List (List Int)) (v:List Int):row (st++[v]) (st.length:Int)=v:=by simp[row,List.getD_eq_getElem?_getD]
theorem Zgf (st:List (List Int)) (v:List Int):(st++[v]).take st.length=st:=by simp
theorem Zg9 {d e x:Int} (d0:0 < d) (h:x=d*e) (x0:0≤x) (x1:x≤12):0≤e∧e≤12:=by
 constructor
 ·
  by_cases q:0≤e
  ·
   exact q
  ·
   have:=Int.mul_le_mul_of_nonneg_left (show e ≤ -1 by omega) (Int.le_of_lt d0)
   omega
 ·
  by_cases q:e≤12
  ·
   exact q
  ·
   have h1:=Int.mul_le_mul_of_nonneg_right (show 1≤d by omega) (show 0≤e by omega)
   omega
theorem put_top {m:Int} (m2:2≤m) (m12:m≤12) {W:Nat} (hW:W≤100000) {M:Vc→Prop}:∀(n j:Nat) (v:List Int) (p st:List (List Int)),W≤j+n→Zb j v→Pst m W p (st++[v]) M→st.length≤1000000000 →
  (ZS.l0 m p (st++[v])=ZS.l0 m p st∧Pst m W p st M) ∨
  ∃p' ws,ZS.l0 m p (st++[v])=ZS.l0 m p' (st++ws)∧ws.length=3∧Pst m W p' (st++ws) M∧dsum m p' W < dsum m p W:=by
 intro n
 induction n with
 | zero =>
  intro j v p st hj hz h hst
  obtain⟨hvl,hva⟩:=h.inv.sts v (List.mem_append_right _ (List.mem_singleton.2 rfl))
  have e0:(st++[v]).length=st.length+1:=by simp
  have e1:wrapI (((st++[v]).length:Int) - 1)=(st.length:Int):=by rw[w64 (by omega) (by omega)];omega
  rcases indexFunc v (by omega)with ⟨hzz,hI⟩|⟨i,hi,hzi,hne,hI⟩
  ·
   rw[hvl]at hzz
   refine .inl ⟨?_,h.drop hzz⟩
   rw[ZS.l0_eq,e1,ZgZ,Int.toNat_natCast,Zgf]
   ((with_reducible repeat (first|refine Zq (by first|assumption|omega|rfl|exact B_pos (by omega)) ?_|refine Zp (by first|assumption|omega|decide|exact B_not (by omega)) ?_|refine Zk (by first|assumption) ?_|dsimp only));first|done|(with_reducible rfl)|simp (disch:=omega) only[w64]|(show False;done))
  ·
   exact absurd (hz i (by omega)) hne
 | succ n ih =>
  intro j v p st hj hz h hst
  obtain⟨hvl,hva⟩:=h.inv.sts v (List.mem_append_right _ (List.mem_singleton.2 rfl))
  have e0:(st++[v]).length=st.length+1:=by simp
  have e1:wrapI (((st++[v]).length:Int) - 1)=(st.length:Int):=by rw[w64 (by omega) (by omega)];omega
  rcases indexFunc v (by omega)with ⟨hzz,hI⟩|⟨i,hi,hzi,hne,hI⟩
  ·
   rw[hvl]at hzz
   refine .inl ⟨?_,h.drop hzz⟩
   rw[ZS.l0_eq,e1,ZgZ,Int.toNat_natCast,Zgf]
   ((with_reducible repeat (first|refine Zq (by first|assumption|omega|rfl|exact B_pos (by omega)) ?_|refine Zp (by first|assumption|omega|decide|exact B_not (by omega)) ?_|refine Zk (by first|assumption) ?_|dsimp only));first|done|(with_reducible rfl)|simp (disch:=omega) only[w64]|(show False;done))
  have hij:j≤i:=by
   by_cases q:j≤i
   ·
    exact q
   ·
    exact absurd (hz i (by omega)) hne
  have hpl:=h.inv.tab.len
  have hiW:i < W:=by omega
  obtain⟨v0,v1⟩:=hva i (by omega) (by omega)
  have swap:∀o:List Int,(row p (i:Int)=[]∧o=List.replicate v.length 0∨row p (i:Int)≠[]∧o=row p (i:Int))→(¬ rd o (i:Int)=0→¬ Int.tmod (rd v (i:Int)) (rd o (i:Int))=0) →
    ∃p' ws,ZS.j1 v i o m p st=ZS.l0 m p' (st++ws)∧ws.length=3∧Pst m W p' (st++ws) M∧dsum m p' W < dsum m p W:=by
   intro o ho hnd
   have ol:o.length=W:=by
    rcases ho with ⟨_,rfl⟩|⟨hr,rfl⟩
    ·
     rw[List.length_replicate];exact hvl
    ·
     exact(h.inv.tab.prow hiW hr).len
   have oa:AllIn m o:=by
    rcases ho with ⟨_,rfl⟩|⟨hr,rfl⟩
    ·
     exact Zl1 (by omega) _
    ·
     exact(h.inv.tab.prow hiW hr).ent
   have oz:Zb i o:=by
    rcases ho with ⟨_,rfl⟩|⟨hr,rfl⟩
    ·
     exact fun k _=>ZeM _ _
    ·
     exact(h.inv.tab.prow hiW hr).zero
   obtain⟨o0,o1⟩:=oa i (by omega) (by omega)
   obtain⟨x,y,hbz,hx,hy,hxy⟩:=bezout m2 m12 (p:=p) (a:=rd o (i:Int)) (b:=rd v (i:Int)) o0 (by omega) v0 (by omega)
   have dm:((Int.gcd ((Int.gcd (rd o (i:Int)) (rd v (i:Int)):Nat):Int) m:Nat):Int)∣m:=Int.gcd_dvd_right ..
   have dg:((Int.gcd ((Int.gcd (rd o (i:Int)) (rd v (i:Int)):Nat):Int) m:Nat):Int)∣((Int.gcd (rd o (i:Int)) (rd v (i:Int)):Nat):Int):=Int.gcd_dvd_left ..
   have dO:=Int.dvd_trans dg (Int.gcd_dvd_left (a:=rd o (i:Int)) (b:=rd v (i:Int)))
   have dV:=Int.dvd_trans dg (Int.gcd_dvd_right (a:=rd o (i:Int)) (b:=rd v (i:Int)))
   have d0:0 < ((Int.gcd ((Int.gcd (rd o (i:Int)) (rd v (i:Int)):Nat):Int) m:Nat):Int):=by
    have:0 < Int.gcd ((Int.gcd (rd o (i:Int)) (rd v (i:Int)):Nat):Int) m:=Int.gcd_pos_of_ne_zero_right _ (by omega)
    omega
   generalize ((Int.gcd ((Int.gcd (rd o (i:Int)) (rd v (i:Int)):Nat):Int) m:Nat):Int)=d at hbz hxy dm dO dV d0
   clear dg
   have dv1:d≤rd v (i:Int):=Int.le_of_dvd (by omega) dV
   obtain⟨eo,heo⟩:=dO
   obtain⟨ev,hev⟩:=dV
   obtain⟨eo0,eo1⟩:=Zg9 d0 heo o0 (by omega)
   obtain⟨ev0,ev1⟩:=Zg9 d0 hev v0 (by omega)
   obtain⟨md,hmd⟩:=dm
   obtain⟨md0,md1⟩:=Zg9 d0 hmd (by omega) m12
   have hmdd:Int.tdiv m d=md:=by rw[hmd];exact Int.mul_tdiv_cancel_left _ (by omega)
   have hmde:m / d=md:=by rw[hmd];exact Int.mul_ediv_cancel_left _ (by omega)
   have c1:=combined m2 m12 (p:=p) (x:=x) (y:=y) oa hva (by omega) (by omega) (by omega) (by omega) (by omega) (by omega)
   obtain⟨nx,hnx⟩:∃nx,nx=mix m x o y v:=⟨_,rfl⟩
   have nl:nx.length=W:=by rw[hnx,Zcx,ol]
   have na:AllIn m nx:=by rw[hnx];exact Zgv (by omega)
   have nz:Zb i nx:=fun k hk=>by
    rw[hnx,ZdR (by omega),oz k hk,hzi k hk];simp
   have nd:rd nx (i:Int)=d:=by
    rw[hnx,ZdR (by omega)]
    have:(x*rd o (i:Int)+y*rd v (i:Int))%m=d%m:=by
     obtain⟨q,hq⟩:=hxy
     rw[show x*rd o (i:Int)+y*rd v (i:Int)=d+m*q by omega,Int.add_mul_emod_self_left]
    rw[this,Int.emod_eq_of_lt (by omega) (by omega)]
   have nP:PRow m W i nx:=⟨nl,na,nz,by omega,by omega,by rw[nd];exact⟨md,hmd⟩⟩
   rw[←hnx]at c1
   have c2:=combined m2 m12 (p:=p.set i nx) (x:=1) (y := -eo) oa na (by omega) (by omega) (by omega) (by omega) (by omega) (by omega)
   have c3:=combined m2 m12 (p:=p.set i nx) (x:=1) (y := -ev) hva na (by omega) (by omega) (by omega) (by omega) (by omega) (by omega)
   have c4:=combined m2 m12 (p:=p.set i nx) (x:=md) (y:=0) na na rfl (by omega) (by omega) (by omega) (by omega) (by omega)
   have f1:wrapI ((wrapI (0 - rd o (i:Int))).tdiv d) = -eo:=by rw[w64 (x:=0 - rd o (i:Int)) (by omega) (by omega),heo,Zhl d0,w64 (by omega) (by omega)]
   have f2:wrapI ((wrapI (0 - rd v (i:Int))).tdiv d) = -ev:=by rw[w64 (x:=0 - rd v (i:Int)) (by omega) (by omega),hev,Zhl d0,w64 (by omega) (by omega)]
   have f3:wrapI (Int.tdiv m d)=md:=by rw[hmdd];exact w64 (by omega) (by omega)
   have l3:∀a b c:List Int,([a,b,c]:List (List Int)).length=3:=fun _ _ _=>rfl
   have hset:(p.set i nx).length=W:=by rw[List.length_set];exact hpl
   refine⟨p.set i nx,[mix m 1 o (-eo) nx,mix m 1 v (-ev) nx,mix m md nx 0 nx],?_,rfl,?_,?_⟩
   ·
    rw[ZS.j1_eq]
    by_cases q:rd o (i:Int)=0
    ·
     (with_reducible repeat (first|refine Zq (by first|assumption|omega|rfl|exact B_pos (by omega)) ?_|refine Zp (by first|assumption|omega|decide|exact B_not (by omega)) ?_|refine Zk (by first|assumption) ?_|dsimp only))
     rw[Int.toNat_natCast,f1]
     (with_reducible repeat (first|refine Zq (by first|assumption|omega|rfl|exact B_pos (by omega)) ?_|refine Zp (by first|assumption|omega|decide|exact B_not (by omega)) ?_|refine Zk (by first|assumption) ?_|dsimp only))
     rw[f2]
     (with_reducible repeat (first|refine Zq (by first|assumption|omega|rfl|exact B_pos (by omega)) ?_|refine Zp (by first|assumption|omega|decide|exact B_not (by omega)) ?_|refine Zk (by first|assumption) ?_|dsimp only))
     rw[f3]
     (with_reducible repeat (first|refine Zq (by first|assumption|omega|rfl|exact B_pos (by omega)) ?_|refine Zp (by first|assumption|omega|decide|exact B_not (by omega)) ?_|refine Zk (by first|assumption) ?_|dsimp only))
     rw[l3]
     (with_reducible repeat (first|refine Zq (by first|assumption|omega|rfl|exact B_pos (by omega)) ?_|refine Zp (by first|assumption|omega|decide|exact B_not (by omega)) ?_|refine Zk (by first|assumption) ?_|dsimp only))
    ·
     have q2:=hnd q
     (with_reducible repeat (first|refine Zq (by first|assumption|omega|rfl|exact B_pos (by omega)) ?_|refine Zp (by first|assumption|omega|decide|exact B_not (by omega)) ?_|refine Zk (by first|assumption) ?_|dsimp only))
     rw[Int.toNat_natCast,f1]
     (with_reducible repeat (first|refine Zq (by first|assumption|omega|rfl|exact B_pos (by omega)) ?_|refine Zp (by first|assumption|omega|decide|exact B_not (by omega)) ?_|refine Zk (by first|assumption) ?_|dsimp only))
     rw[f2]
     (with_reducible repeat (first|refine Zq (by first|assumption|omega|rfl|exact B_pos (by omega)) ?_|refine Zp (by first|assumption|omega|decide|exact B_not (by omega)) ?_|refine Zk (by first|assumption) ?_|dsimp only))
     rw[f3]
     (with_reducible repeat (first|refine Zq (by first|assumption|omega|rfl|exact B_pos (by omega)) ?_|refine Zp (by first|assumption|omega|decide|exact B_not (by omega)) ?_|refine Zk (by first|assumption) ?_|dsimp only))
     rw[l3]
     (with_reducible repeat (first|refine Zq (by first|assumption|omega|rfl|exact B_pos (by omega)) ?_|refine Zp (by first|assumption|omega|decide|exact B_not (by omega)) ?_|refine Zk (by first|assumption) ?_|dsimp only))
   ·
    have g0:∀k:Nat,k < W→m∣1*rd o (k:Int)+(-eo)*rd nx (k:Int) - rd (mix m 1 o (-eo) nx) (k:Int):=fun k hk=>Ze5 (by omega)
    have g1:∀k:Nat,k < W→m∣1*rd v (k:Int)+(-ev)*rd nx (k:Int) - rd (mix m 1 v (-ev) nx) (k:Int):=fun k hk=>Ze5 (by omega)
    have g2:∀k:Nat,k < W→m∣md*rd nx (k:Int)+0*rd nx (k:Int) - rd (mix m md nx 0 nx) (k:Int):=fun k hk=>Ze5 (by omega)
    have zb:∀(a b:Int) (r:List Int),r.length=W→Zb i r→a*rd r (i:Int)+b*d=0∨a*rd r (i:Int)+b*d=m→Zb (i+1) (mix m a r b nx):=fun a b r hr hz hab k hk=>by
     rw[ZdR (by omega)]
     by_cases e:k=i
     ·
      subst e
      rw[nd]
      rcases hab with hab|hab <;> rw[hab]
      ·
       exact Int.zero_emod m
      ·
       exact Int.emod_self
     ·
      rw[hz k (by omega),nz k (by omega)];simp
    refine h.swap hiW hne nP (fun w hw => ?_) (fun hr => ?_) ?_ ?_ ?_
    ·
     simp only[List.mem_cons,List.not_mem_nil,or_false]at hw
     rcases hw with rfl|rfl|rfl
     ·
      exact⟨⟨by rw[Zcx];exact ol,Zgv (by omega)⟩,zb 1 (-eo) o ol oz (.inl (by rw[heo,Int.neg_mul,Int.mul_comm eo d];omega))⟩
     ·
      exact⟨⟨by rw[Zcx];exact hvl,Zgv (by omega)⟩,zb 1 (-ev) v hvl hzi (.inl (by rw[hev,Int.neg_mul,Int.mul_comm ev d];omega))⟩
     ·
      exact⟨⟨by rw[Zcx];exact nl,Zgv (by omega)⟩,zb md 0 nx nl nz (.inr (by rw[nd,hmd,Int.mul_comm md d];omega))⟩
    ·
     have ho' : o=row p (i:Int):=by
      rcases ho with ⟨e,_⟩|⟨_,e⟩
      ·
       exact absurd e hr
      ·
       exact e
     rw[←ho']
     exact Sp.two (a:=1) (b:=eo) (x:=V (mix m 1 o (-eo) nx)) (y:=V nx) (.gen (.inr ⟨_,List.mem_cons_self ..,rfl⟩)) (.gen (.inl rfl)) fun k hk=>Zi9 (g0 k hk)
    ·
     exact Sp.two (a:=1) (b:=ev) (x:=V (mix m 1 v (-ev) nx)) (y:=V nx) (.gen (.inr ⟨_,List.mem_cons_of_mem _ (List.mem_cons_self ..),rfl⟩)) (.gen (.inl rfl)) fun k hk=>Zi9 (g1 k hk)
    ·
     refine .alike (.gen ⟨_,List.mem_cons_of_mem _ (List.mem_cons_of_mem _ (List.mem_cons_self ..)),rfl⟩) fun k hk => ?_
     obtain⟨q,hq⟩:=g2 k hk
     refine⟨-q,?_⟩
     rw[nd,hmde,Int.mul_neg,←hq]
     show rd (mix m md nx 0 nx) (k:Int) - md*rd nx (k:Int)=_
     omega
    ·
     have hov:∀G:Vc→Prop,(row p (i:Int)≠[]→G (V (row p (i:Int))))→Sp m W G (V o):=fun G hG=>by
      rcases ho with ⟨_,rfl⟩|⟨hr,rfl⟩
      ·
       exact .alike .nil fun k hk=>by
        show m∣0 - rd (List.replicate v.length (0:Int)) (k:Int)
        rw[ZeM];exact⟨0,by omega⟩
      ·
       exact .gen (hG hr)
     have ho2:=hov (fun g=>g=V v∨(row p (i:Int)≠[]∧g=V (row p (i:Int)))) fun hr => .inr ⟨hr,rfl⟩
     have hn2:Sp m W (fun g=>g=V v∨(row p (i:Int)≠[]∧g=V (row p (i:Int)))) (V nx):=Sp.two (a:=x) (b:=y) (x:=V o) (y:=V v) ho2 (.gen (.inl rfl)) fun k hk=>by
      have:m∣x*rd o (k:Int)+y*rd v (k:Int) - rd (mix m x o y v) (k:Int):=Ze5 (by omega)
      rwa[←hnx]at this
     intro g hg
     rcases hg with rfl|⟨w,hw,rfl⟩
     ·
      exact hn2
     simp only[List.mem_cons,List.not_mem_nil,or_false]at hw
     rcases hw with rfl|rfl|rfl
     ·
      exact Sp.two (a:=1) (b := -eo) ho2 hn2 fun k hk=>g0 k hk
     ·
      exact Sp.two (a:=1) (b := -ev) (x:=V v) (.gen (.inl rfl)) hn2 fun k hk=>g1 k hk
     ·
      exact Sp.two (a:=md) (b:=0) hn2 hn2 fun k hk=>g2 k hk
   ·
    rw[Zlr hpl hiW,if_pos hiW,Zik hpl hiW nP.ne,nd]
    unfold dv
    rcases ho with ⟨e,_⟩|⟨hr,e⟩
    ·
     rw[if_pos e];omega
    ·
     rw[if_neg hr,←e]
     have hO:=(h.inv.tab.prow hiW hr).pos
     rw[←e]at hO
     have q2:=hnd (by omega)
     have:d≤rd o (i:Int):=Int.le_of_dvd hO ⟨eo,heo⟩
     by_cases q:d=rd o (i:Int)
     ·
      exact absurd (ZeP.2 ⟨ev,by rw[←q];exact hev⟩) q2
     ·
      omega
  have start:∀o:List Int,(row p (i:Int)=[]∧o=List.replicate v.length 0∨row p (i:Int)≠[]∧o=row p (i:Int))→ZS.l0 m p (st++[v])=ZS.j1 v i o m p st:=by
   intro o ho
   rw[ZS.l0_eq,e1,ZgZ,Int.toNat_natCast,Zgf,Int.toNat_natCast]
   rcases ho with ⟨e,rfl⟩|⟨hr,rfl⟩
   ·
    have e' : (row p (i:Int)).length=0:=by rw[e];rfl
    ((with_reducible repeat (first|refine Zq (by first|assumption|omega|rfl|exact B_pos (by omega)) ?_|refine Zp (by first|assumption|omega|decide|exact B_not (by omega)) ?_|refine Zk (by first|assumption) ?_|dsimp only));first|done|(with_reducible rfl)|simp (disch:=omega) only[w64]|(show False;done))
   ·
    have e' : 0 < (row p (i:Int)).length:=List.length_pos_iff.2 hr
    ((with_reducible repeat (first|refine Zq (by first|assumption|omega|rfl|exact B_pos (by omega)) ?_|refine Zp (by first|assumption|omega|decide|exact B_not (by omega)) ?_|refine Zk (by first|assumption) ?_|dsimp only));first|done|(with_reducible rfl)|simp (disch:=omega) only[w64]|(show False;done))
  by_cases hr:row p (i:Int)=[]
  ·
   have hs:=start _ (.inl ⟨hr,rfl⟩)
   obtain⟨p', ws,k1,k2,k3,k4⟩:=swap _ (.inl ⟨hr,rfl⟩) (fun q=>absurd (ZeM _ _) q)
   exact .inr ⟨p', ws,hs.trans k1,k2,k3,k4⟩
  have hs:=start _ (.inr ⟨hr,rfl⟩)
  by_cases hd:Int.tmod (rd v (i:Int)) (rd (row p (i:Int)) (i:Int))=0
  rotate_left
  ·
   obtain⟨p', ws,k1,k2,k3,k4⟩:=swap _ (.inr ⟨hr,rfl⟩) (fun _=>hd)
   exact .inr ⟨p', ws,hs.trans k1,k2,k3,k4⟩
  have hP:=h.inv.tab.prow hiW hr
  have pl:=hP.len
  have p0:=hP.pos
  have p1:=hP.lt
  obtain⟨e,he⟩:=ZeP.1 hd
  obtain⟨ee0,ee1⟩:=Zg9 p0 he v0 (by omega)
  have c1:=combined m2 m12 (p:=p) (x:=1) (y := -e) hva hP.ent (by omega) (by omega) (by omega) (by omega) (by omega) (by omega)
  have f1:wrapI ((wrapI (0 - rd v (i:Int))).tdiv (rd (row p (i:Int)) (i:Int))) = -e:=by rw[w64 (x:=0 - rd v (i:Int)) (by omega) (by omega),he,Zhl p0,w64 (by omega) (by omega)]
  have hpne:¬ rd (row p (i:Int)) (i:Int)=0:=by omega
  have l1:∀a:List Int,([a]:List (List Int)).length=1:=fun _=>rfl
  have hstep:ZS.j1 v i (row p (i:Int)) m p st=ZS.l0 m p (st++[mix m 1 v (-e) (row p (i:Int))]):=by
   rw[ZS.j1_eq,f1]
   (with_reducible repeat (first|refine Zq (by first|assumption|omega|rfl|exact B_pos (by omega)) ?_|refine Zp (by first|assumption|omega|decide|exact B_not (by omega)) ?_|refine Zk (by first|assumption) ?_|dsimp only))
   rw[l1]
   ((with_reducible repeat (first|refine Zq (by first|assumption|omega|rfl|exact B_pos (by omega)) ?_|refine Zp (by first|assumption|omega|decide|exact B_not (by omega)) ?_|refine Zk (by first|assumption) ?_|dsimp only));first|done|(with_reducible rfl)|simp (disch:=omega) only[w64]|(show False;done))
  have wl:(mix m 1 v (-e) (row p (i:Int))).length=W:=by rw[Zcx];exact hvl
  have wz:Zb (i+1) (mix m 1 v (-e) (row p (i:Int))):=fun k hk=>by
   rw[ZdR (by omega)]
   by_cases q:k=i
   ·
    subst q
    rw[he,show 1*(rd (row p (k:Int)) (k:Int)*e) + -e*rd (row p (k:Int)) (k:Int)=0 by rw[Int.neg_mul,Int.mul_comm e];omega]
    exact Int.zero_emod m
   ·
    rw[hzi k (by omega),hP.zero k (by omega)];simp
  have h' := h.less (c:=e) hiW hr hne ⟨wl,Zgv (by omega)⟩ (fun k hk=>wz k (by omega)) fun k hk=>Ze5 (by omega)
  rcases ih (i+1) _ p st (by omega) wz h' hst with ⟨k1,k2⟩|⟨p', ws,k1,k2,k3,k4⟩
  ·
   exact .inl ⟨(hs.trans hstep).trans k1,k2⟩
  ·
   exact .inr ⟨p', ws,(hs.trans hstep).trans k1,k2,k3,k4⟩
theorem put_ {m:Int} (m2:2≤m) (m12:m≤12) {W:Nat} (hW:W≤100000) {M:Vc→Prop} {p:List (List Int)} {r:List Int} (h:Pst m W p [r] M):∃p', ZS.f m p r=some (m,p')∧Pst m W p' [] M:=by
 rw[ZS.f_eq]
 have key:∀(D:Nat) (k:Nat) (p st:List (List Int)),st.length=k→dsum m p W≤D→(st.length:Int)+3*dsum m p W≤100000000→Pst m W p st M→∃p', ZS.l0 m p st=some (m,p')∧Pst m W p' [] M:=by
  intro D
  induction D with
  | zero =>
   intro k
   induction k with
   | zero =>
    intro p st hl _ _ h
    obtain rfl:=List.length_eq_zero_iff.1 hl
    refine⟨p,?_,h⟩
    rw[ZS.l0_eq]
    ((with_reducible repeat (first|refine Zq (by first|assumption|omega|rfl|exact B_pos (by omega)) ?_|refine Zp (by first|assumption|omega|decide|exact B_not (by omega)) ?_|refine Zk (by first|assumption) ?_|dsimp only));first|done|(with_reducible rfl)|simp (disch:=omega) only[w64]|(show False;done))
   | succ k ih =>
    intro p st hl hD hK h
    obtain⟨st', v,rfl⟩:∃st' v,st=st' ++ [v]:=⟨st.dropLast,st.getLast (fun e=>by rw[e]at hl;simp at hl),(List.dropLast_concat_getLast _).symm⟩
    have e0:(st' ++ [v]).length=st'.length+1:=by simp
    obtain⟨s0,_⟩:=ZgV (show 0 < m by omega) h.inv.tab W (Nat.le_refl _)
    rcases put_top m2 m12 hW W 0 v p st' (by omega) (fun i hi=>by omega) h (by omega)with ⟨k1,k2⟩|⟨p', ws,k1,k2,k3,k4⟩
    ·
     rw[k1]
     exact ih p st' (by omega) hD (by omega) k2
    ·
     obtain⟨s1,_⟩:=ZgV (show 0 < m by omega) k3.inv.tab W (Nat.le_refl _)
     omega
  | succ D ihD =>
   intro k
   induction k with
   | zero =>
    intro p st hl _ _ h
    obtain rfl:=List.length_eq_zero_iff.1 hl
    refine⟨p,?_,h⟩
    rw[ZS.l0_eq]
    ((with_reducible repeat (first|refine Zq (by first|assumption|omega|rfl|exact B_pos (by omega)) ?_|refine Zp (by first|assumption|omega|decide|exact B_not (by omega)) ?_|refine Zk (by first|assumption) ?_|dsimp only));first|done|(with_reducible rfl)|simp (disch:=omega) only[w64]|(show False;done))
   | succ k ih =>
    intro p st hl hD hK h
    obtain⟨st', v,rfl⟩:∃st' v,st=st' ++ [v]:=⟨st.dropLast,st.getLast (fun e=>by rw[e]at hl;simp at hl),(List.dropLast_concat_getLast _).symm⟩
    have e0:(st' ++ [v]).length=st'.length+1:=by simp
    obtain⟨s0,_⟩:=ZgV (show 0 < m by omega) h.inv.tab W (Nat.le_refl _)
    rcases put_top m2 m12 hW W 0 v p st' (by omega) (fun i hi=>by omega) h (by omega)with ⟨k1,k2⟩|⟨p', ws,k1,k2,k3,k4⟩
    ·
     rw[k1]
     exact ih p st' (by omega) hD (by omega) k2
    ·
     rw[k1]
     have e1:(st' ++ ws).length=st'.length+3:=by rw[List.length_append,k2]
     exact ihD _ p' (st' ++ ws) rfl (by omega) (by omega) k3
 obtain⟨s0,s1⟩:=ZgV (show 0 < m by omega) h.inv.tab W (Nat.le_refl _)
 have hb:m*(W:Int)≤12*100000:=Int.mul_le_mul (by omega) (by omega) (by omega) (by omega)
 exact key (dsum m p W).toNat 1 p [r] rfl (by omega) (by show(1:Int)+_≤_;omega) h
end Go.Proofs.YthmcpmnhdbeahaaGreat.V
namespace Go.Proofs.YthmcpmnhdbeahaaGreat.V
open Go.RowKit Go.Proofs.YthmcpmnhdbeahaaGreat.D Go.Proofs.YthmcpmnhdbeahaaGreat.P
end Go.Proofs.YthmcpmnhdbeahaaGreat.V
namespace Go.Proofs.YthmcpmnhdbeahaaGreat.V
open Go.RowKit Go.Proofs.YthmcpmnhdbeahaaGreat.D Go.Proofs.YthmcpmnhdbeahaaGreat.P
section
variable {m:Int} {W:Nat} {p:List (List Int)} {M:Vc→Prop} {G G' : Vc→Prop}
theorem Pst.lead (m0:0 < m) (h:Pst m W p [] M):Lead m W p M:=by
 have e:∀k g,GT W p [] k g→Sp m W (Rws W p k) g:=fun k g hg=>by
  rcases hg with hg|⟨s,hs,_⟩
  ·
   exact .gen hg
  ·
   cases hs
 exact ZmF m0 h.inv.tab (fun j hj hr=>(h.inv.how j hj hr).mono (e _)) fun x=>by
  rw[←h.spn x]
  exact⟨fun hx=>hx.mono fun g hg => .gen (.inl hg),fun hx=>hx.mono (e 0)⟩
theorem Pst.add {r:List Int} (h:Pst m W p [] (Sp m W G)) (hr:r.length=W∧AllIn m r) (hG:∀g,G' g↔G g∨g=V r):Pst m W p [r] (Sp m W G') where
 inv:=⟨h.inv.tab,fun s hs=>by rw[List.mem_singleton]at hs;subst hs;exact hr,fun j hj hn=>(h.inv.how j hj hn).mono fun g hg=>by
  rcases hg with hg|⟨s,hs,_⟩
  ·
   exact .gen (.inl hg)
  ·
   cases hs⟩
 spn := fun x=>by
  constructor
  ·
   intro hx
   refine hx.mono fun g hg => ?_
   rcases hg with hg|⟨s,hs,_,rfl⟩
   ·
    exact((h.spn g).1 (.gen (.inl hg))).mono fun g hg => .gen ((hG g).2 (.inl hg))
   ·
    rw[List.mem_singleton]at hs
    subst hs
    exact .gen ((hG _).2 (.inr rfl))
  ·
   intro hx
   refine hx.mono fun g hg => ?_
   rcases(hG g).1 hg with hg|rfl
   ·
    refine((h.spn g).2 (.gen hg)).mono fun g hg => ?_
    rcases hg with hg|⟨s,hs,_⟩
    ·
     exact .gen (.inl hg)
    ·
     cases hs
   ·
    exact .gen (.inr ⟨r,List.mem_singleton.2 rfl,fun i hi=>by omega,rfl⟩)
theorem Zhc (n:Nat) (i:Int):row (List.replicate n ([]:List Int)) i=[]:=by
 simp only[row,List.getD_eq_getElem?_getD,List.getElem?_replicate]
 split <;> rfl
theorem Pst.none (hG:∀g,¬ G g):Pst m W (List.replicate W []) [] (Sp m W G) where
 inv:=⟨⟨List.length_replicate,fun j _ => .inl (Zhc _ _)⟩,fun s hs=>(by cases hs),fun j _ hn=>absurd (Zhc _ _) hn⟩
 spn:=fun x=>by
  constructor
  ·
   intro hx
   refine hx.mono fun g hg => ?_
   rcases hg with ⟨j,_,_,hn,_⟩|⟨s,hs,_⟩
   ·
    exact absurd (Zhc _ _) hn
   ·
    cases hs
  ·
   intro hx
   exact hx.mono fun g hg=>absurd hg (hG g)
def Gn (f:Nat→List Int) (k:Nat):Vc→Prop:=fun g=>∃i:Nat,i < k∧g=V (f i)
theorem Zmn {f:Nat→List Int} {k:Nat} (g:Vc):Gn f (k+1) g↔Gn f k g∨g=V (f k):=by
 constructor
 ·
  rintro⟨i,hi,rfl⟩
  by_cases e:i=k
  ·
   exact .inr (by rw[e])
  ·
   exact .inl ⟨i,by omega,rfl⟩
 ·
  rintro(⟨i,hi,rfl⟩|rfl)
  ·
   exact⟨i,by omega,rfl⟩
  ·
   exact⟨k,by omega,rfl⟩
theorem ZdV {r:List Int} {A i:Nat} (h:i < A):rd (r.take A) (i:Int)=rd r (i:Int):=by
 simp[rd,List.getD_eq_getElem?_getD,List.getElem?_take,h]
theorem Zha {r:List Int} {A i:Nat}:rd (r.drop A) (i:Int)=rd r ((A+i:Nat):Int):=by
 simp only[rd,Int.toNat_natCast,List.getD_eq_getElem?_getD,List.getElem?_drop]
theorem Lead.first {A B:Nat} {q:List (List Int)} (h:Lead m (A+B) p M) (m0:0 < m) (hl:q.length=A) (hr:∀j:Nat,j < A→row q (j:Int)=(row p (j:Int)).take A) :
    Lead m A q (fun x=>∃y,M y∧∀i,i < A→m∣y i - x i):=by
  have hP:∀j:Nat,j < A→row p (j:Int)≠[]→PRow m A j (row q (j:Int)):=fun j hj hn=>by
    have k:=h.tab.prow (show j < A+B by omega) hn
    rw[hr j hj]
    refine⟨by rw[List.length_take,k.len];omega,k.ent.take _,fun i hi=>by rw[ZdV (by omega)];exact k.zero i hi,?_,?_,?_⟩ <;> rw[ZdV hj]
    · exact k.pos
    · exact k.lt
    · exact k.dvd
  have hE:∀j:Nat,j < A→(row q (j:Int)=[]↔row p (j:Int)=[]):=fun j hj=>by
    constructor
    · intro e
      by_cases hn:row p (j:Int)=[]
      · exact hn
      · exact absurd e (hP j hj hn).ne
    · intro e;rw[hr j hj,e];simp
  have hdv:∀j:Nat,j < A→dv m q j=dv m p j:=fun j hj=>by
    unfold dv
    by_cases hn:row p (j:Int)=[]
    · rw[if_pos hn,if_pos ((hE j hj).2 hn)]
    · rw[if_neg hn,if_neg fun e=>hn ((hE j hj).1 e),hr j hj,ZdV hj]
  exact {
    tab:=⟨hl,fun j hj=>by
      by_cases hn:row p (j:Int)=[]
      · exact .inl ((hE j hj).2 hn)
      · exact .inr (hP j hj hn)⟩
    sub := ⟨⟨_,h.sub.zero,fun i _=>Zca rfl⟩,fun x y ⟨x', hx,ex⟩ ⟨y', hy,ey⟩ c=>⟨_,h.sub.lin _ _ hx hy c,fun i hi=>by
      have:=Int.dvd_add (ex i hi) (Int.dvd_mul_of_dvd_right (b:=c) (ey i hi))
      rw[Int.mul_sub]at this
      rwa[show ∀a b c d:Int,a+c - (b+d)=a - b+(c - d)from fun a b c d=>by omega]⟩,
      fun x y ⟨x', hx,ex⟩ e=>⟨x', hx,fun i hi=>by
        have:=Int.dvd_add (ex i hi) (e i hi)
        rwa[show ∀a b c:Int,a - b+(b - c)=a - c from fun a b c=>by omega]at this⟩⟩
    own:=fun j hj hn=>⟨V (row p (j:Int)),h.own j (by omega) fun e=>hn ((hE j hj).2 e),fun i hi=>by
      refine Zca ?_
      show rd (row p (j:Int)) (i:Int)=rd (row q (j:Int)) (i:Int)
      rw[hr j hj,ZdV hi]⟩
    lead:=fun x ⟨y,hy,e⟩ j hj hz=>by
      have:=h.lead y hy j (by omega) fun i hi=>by
        have:=Int.dvd_add (e i (by omega)) (hz i hi)
        rwa[show ∀a b:Int,a - b+b=a from fun a b=>by omega]at this
      rw[hdv j hj]
      have hd:=(dv_bd m0 h.tab (show j < A+B by omega)).2.2
      have:=Int.dvd_sub this (Int.dvd_trans hd (e j hj))
      rwa[show ∀a b:Int,a - (a - b)=b from fun a b=>by omega]at this }
def pad (A:Nat) (x:Vc):Vc:=fun i=>if i < A then 0 else x (i - A)
theorem Lead.last {A B:Nat} {q:List (List Int)} (h:Lead m (A+B) p M) (m0:0 < m) (hl:q.length=B) (hr:∀j:Nat,j < B→row q (j:Int)=(row p ((A+j:Nat):Int)).drop A) :
    Lead m B q (fun x=>M (pad A x)):=by
  have hP:∀j:Nat,j < B→row p ((A+j:Nat):Int)≠[]→PRow m B j (row q (j:Int)):=fun j hj hn=>by
    have k:=h.tab.prow (show A+j < A+B by omega) hn
    rw[hr j hj]
    refine⟨by rw[List.length_drop,k.len];omega,k.ent.drop _,fun i hi=>by rw[Zha];exact k.zero _ (by omega),?_,?_,?_⟩ <;> rw[Zha]
    · exact k.pos
    · exact k.lt
    · exact k.dvd
  have hE:∀j:Nat,j < B→(row q (j:Int)=[]↔row p ((A+j:Nat):Int)=[]):=fun j hj=>by
    constructor
    · intro e
      by_cases hn:row p ((A+j:Nat):Int)=[]
      · exact hn
      · exact absurd e (hP j hj hn).ne
    · intro e;rw[hr j hj,e];simp
  have hdv:∀j:Nat,j < B→dv m q j=dv m p (A+j):=fun j hj=>by
    unfold dv
    by_cases hn:row p ((A+j:Nat):Int)=[]
    · rw[if_pos hn,if_pos ((hE j hj).2 hn)]
    · rw[if_neg hn,if_neg fun e=>hn ((hE j hj).1 e),hr j hj,Zha]
  have hpad:∀(x y:Vc) (c:Int),pad A (fun i=>x i+c*y i)=fun i=>pad A x i+c*pad A y i:=fun x y c=>by
    funext i
    unfold pad
    by_cases h:i < A
    · simp[h]
    · simp[h]
  exact {
    tab:=⟨hl,fun j hj=>by
      by_cases hn:row p ((A+j:Nat):Int)=[]
      · exact .inl ((hE j hj).2 hn)
      · exact .inr (hP j hj hn)⟩
    sub := ⟨h.sub.alike _ _ h.sub.zero fun i _=>Zca (by unfold pad;simp),fun x y hx hy c=>by rw[hpad];exact h.sub.lin _ _ hx hy c,
      fun x y hx e=>h.sub.alike _ _ hx fun i hi=>by
        unfold pad
        by_cases k:i < A
        · simp[k]
        · simp only[k,if_false]
          exact e (i - A) (by omega)⟩
    own := fun j hj hn=>by
      have hn' : row p ((A+j:Nat):Int)≠[]:=fun e=>hn ((hE j hj).2 e)
      refine h.sub.alike _ _ (h.own (A+j) (by omega) hn') fun i hi=>Zca ?_
      unfold pad
      by_cases k:i < A
      · simp only[k,if_true]
        exact(h.tab.prow (show A+j < A+B by omega) hn').zero i (by omega)
      · simp only[k,if_false]
        show rd (row p ((A+j:Nat):Int)) (i:Int)=rd (row q (j:Int)) ((i - A:Nat):Int)
        rw[hr j hj,Zha,show A+(i - A)=i by omega]
    lead := fun x hx j hj hz=>by
      have:=h.lead _ hx (A+j) (by omega) fun i hi=>by
        unfold pad
        by_cases k:i < A
        · simp[k]
        · simp only[k,if_false]
          exact hz _ (by omega)
      rw[hdv j hj]
      unfold pad at this
      rw[if_neg (by omega),show A+j - A=j by omega]at this
      exact this }
theorem Zc4 {a b:List Int} {i:Nat} (h:i < a.length):rd (a++b) (i:Int)=rd a (i:Int):=by
 simp[rd,List.getD_eq_getElem?_getD,List.getElem?_append,h]
theorem ZcO {a b:List Int} {i:Nat} (h:a.length≤i):rd (a++b) (i:Int)=rd b ((i - a.length:Nat):Int):=by
 simp only[rd,Int.toNat_natCast,List.getD_eq_getElem?_getD,List.getElem?_append,if_neg (show ¬ i < a.length by omega)]
end
theorem ZiF {t:List Int} {j:Nat} {x:Int} (h:j < t.length):rd (t.set j x) (j:Int)=x:=by
 rw[rd_get (by rw[List.length_set];exact h)];simp
theorem ZkS {t:List Int} {i j:Nat} {x:Int} (h:i≠j):rd (t.set j x) (i:Int)=rd t (i:Int):=by
 simp only[rd,Int.toNat_natCast,List.getD_eq_getElem?_getD,List.getElem?_set,if_neg (show ¬ j=i from fun e=>h e.symm)]
end Go.Proofs.YthmcpmnhdbeahaaGreat.V
namespace Go.Proofs.YthmcpmnhdbeahaaGreat.V
open Go.RowKit Go.Proofs.YthmcpmnhdbeahaaGreat.D Go.Proofs.YthmcpmnhdbeahaaGreat.P
def unitC (c i:Nat):List Int:=(List.replicate c (0:Int)).set i 1
theorem Zd1 (c i:Nat):(unitC c i).length=c:=by simp[unitC]
theorem Zjm {m:Int} (m2:2≤m) (c i:Nat):AllIn m (unitC c i):=Zb8 fun x hx=>by
 rcases List.mem_or_eq_of_mem_set hx with h|h
 ·
  rw[List.mem_replicate]at h;omega
 ·
  omega
theorem ZeU (g:List (List Int)) (m:Int) (u v:List Int) (d:Nat):(bdL g m u v d).length=(cells g ((d+1:Nat):Int)).toNat:=by rw[bdL,List.length_map,List.length_range]
theorem Zm5 {m:Int} (m2:2≤m) (g:List (List Int)) (u v:List Int) (d:Nat):AllIn m (bdL g m u v d):=Zb8 fun x hx=>by
 obtain⟨i,_,rfl⟩:=List.mem_map.1 hx
 exact⟨Int.emod_nonneg _ (by omega),Int.emod_lt_of_pos _ (by omega)⟩
noncomputable def bdU (g:List (List Int)) (m:Int) (u:List Int) (e i:Nat):List Int:=bdL g m u (unitC (cells g (e:Int)).toNat i) e
noncomputable def bdA (g:List (List Int)) (m:Int) (u:List Int) (e i:Nat):List Int:=bdU g m u e i++unitC (cells g (e:Int)).toNat i
noncomputable def nB (g:List (List Int)) (e:Nat):Nat:=(cells g (e:Int)).toNat
theorem Zmj {g:List (List Int)} (hg:Grp g) {m:Int} (m2:2≤m) {e:Nat} (he:e≤3) (i:Nat):Co g m e (unitC (cells g (e:Int)).toNat i):=by
 have hb:=Zd2 hg (d:=(e:Int)) (by omega)
 exact⟨⟨by omega,by omega⟩,by rw[Zd1];omega,Zjm m2 _ _⟩
theorem Zjd (m:Int) {c:Nat} (hc:c≤100000):Zbv.f m (c:Int)=some (m,List.replicate c []):=by
 rw[Zbv.f_eq,Int.toNat_natCast]
 ((with_reducible repeat (first|refine Zq (by first|assumption|omega|rfl|exact B_pos (by omega)) ?_|refine Zp (by first|assumption|omega|decide|exact B_not (by omega)) ?_|refine Zk (by first|assumption) ?_|dsimp only));first|done|(with_reducible rfl)|simp (disch:=omega) only[w64]|(show False;done))
theorem concat2 {a b:List Int} (ha:a.length≤1000000) (hb:b.length≤1000000):ZA.f [a,b]=some (a++b):=by
 have l2:([a,b]:List (List Int)).length=2:=rfl
 have r0:row [a,b] 0=a:=rfl
 have r1:row [a,b] 1=b:=rfl
 have w1:wrapI (0+1)=1:=w64 (by omega) (by omega)
 have w2:wrapI (1+1)=2:=w64 (by omega) (by omega)
 have w3:wrapI (0+(a.length:Int))=(a.length:Int):=by rw[w64 (by omega) (by omega)];omega
 have w4:wrapI ((a.length:Int)+(b.length:Int))=((a.length+b.length:Nat):Int):=by rw[w64 (by omega) (by omega)];omega
 have w5:wrapI (0 - 0)=0:=w64 (by omega) (by omega)
 have hG:ZaZ.f ((a.length+b.length:Nat):Int)=some []:=by
  have w6:wrapI (((a.length+b.length:Nat):Int) - 0)=((a.length+b.length:Nat):Int):=by rw[w64 (by omega) (by omega)];omega
  rw[ZaZ.f_eq,w5,w6,Int.toNat_natCast,List.length_replicate]
  by_cases h:a.length+b.length=0
  ·
   rw[h];((with_reducible repeat (first|refine Zq (by first|assumption|omega|rfl|exact B_pos (by omega)) ?_|refine Zp (by first|assumption|omega|decide|exact B_not (by omega)) ?_|refine Zk (by first|assumption) ?_|dsimp only));first|done|(with_reducible rfl)|simp (disch:=omega) only[w64]|(show False;done))
  ·
   (with_reducible repeat (first|refine Zq (by first|assumption|omega|rfl|exact B_pos (by omega)) ?_|refine Zp (by first|assumption|omega|decide|exact B_not (by omega)) ?_|refine Zk (by first|assumption) ?_|dsimp only))
   rfl
 rw[ZA.f_eq,l2,ZA.l0_eq,r0,w1,w3]
 (with_reducible repeat (first|refine Zq (by first|assumption|omega|rfl|exact B_pos (by omega)) ?_|refine Zp (by first|assumption|omega|decide|exact B_not (by omega)) ?_|refine Zk (by first|assumption) ?_|dsimp only))
 rw[ZA.l0_eq,r1,w2,w4]
 (with_reducible repeat (first|refine Zq (by first|assumption|omega|rfl|exact B_pos (by omega)) ?_|refine Zp (by first|assumption|omega|decide|exact B_not (by omega)) ?_|refine Zk (by first|assumption) ?_|dsimp only))
 rw[ZA.l0_eq]
 (with_reducible repeat (first|refine Zq (by first|assumption|omega|rfl|exact B_pos (by omega)) ?_|refine Zp (by first|assumption|omega|decide|exact B_not (by omega)) ?_|refine Zk (by first|assumption) ?_|dsimp only))
 rw[l2,ZA.l1_eq,r0,w1,show([]:List Int).length=0 from rfl]
 (with_reducible repeat (first|refine Zq (by first|assumption|omega|rfl|exact B_pos (by omega)) ?_|refine Zp (by first|assumption|omega|decide|exact B_not (by omega)) ?_|refine Zk (by first|assumption) ?_|dsimp only))
 rw[List.nil_append,ZA.l1_eq,r1,w2]
 (with_reducible repeat (first|refine Zq (by first|assumption|omega|rfl|exact B_pos (by omega)) ?_|refine Zp (by first|assumption|omega|decide|exact B_not (by omega)) ?_|refine Zk (by first|assumption) ?_|dsimp only))
 rw[ZA.l1_eq]
 ((with_reducible repeat (first|refine Zq (by first|assumption|omega|rfl|exact B_pos (by omega)) ?_|refine Zp (by first|assumption|omega|decide|exact B_not (by omega)) ?_|refine Zk (by first|assumption) ?_|dsimp only));first|done|(with_reducible rfl)|simp (disch:=omega) only[w64]|(show False;done))
theorem nA_bd {g:List (List Int)} (hg:Grp g) {e:Nat} (he:e≤4):nB g e≤16807∧((nB g e:Nat):Int)=cells g (e:Int):=by
 have hb:=Zd2 hg (d:=(e:Int)) (by omega)
 unfold nB
 omega
theorem Zlm {g:List (List Int)} (hg:Grp g) {m:Int} {u:List Int} (hm:Mdl g m u) {n:Nat} (hn:n≤3) :
  ∃p,Za5.f g m u (n:Int)=some (m,p,((nB g (n+1):Nat):Int))∧Pst m (nB g (n+1)+nB g n) p [] (Sp m (nB g (n+1)+nB g n) (Gn (bdA g m u n) (nB g n))):=by
 have m2:=hm.m2;have m12:=hm.m12
 obtain⟨b1,b2⟩:=nA_bd hg (e:=n) (by omega)
 obtain⟨c1,c2⟩:=nA_bd hg (e:=n+1) (by omega)
 have hc:=ZiV hg (d:=(n:Int)) (by omega) (by omega)
 have hc2:=ZiV hg (d:=((n+1:Nat):Int)) (by omega) (by omega)
 have hz:=zero_ hg (n:=n) (by omega)
 rw[←show nB g n=(cells g (n:Int)).toNat from rfl]at hz
 have hN:=Zjd m (c:=nB g (n+1)+nB g n) (by omega)
 have w:wrapI ((nB g (n+1):Int)+(nB g n:Int))=((nB g (n+1)+nB g n:Nat):Int):=by rw[w64 (by omega) (by omega)];omega
 rw[Za5.f_eq,wn (j:=n) (by omega),hc2,Option.bind_some,hc,Option.bind_some,←b2,←c2,w,hN,Option.bind_some]
 have key:∀k,k≤nB g n→∃p,Za5.l0 (n:Int) ((nB g (n+1):Nat):Int) ((nB g n:Nat):Int) 0 g m u m (List.replicate (nB g (n+1)+nB g n) [])=Za5.l0 (n:Int) ((nB g (n+1):Nat):Int) ((nB g n:Nat):Int) (k:Int) g m u m p∧Pst m (nB g (n+1)+nB g n) p [] (Sp m (nB g (n+1)+nB g n) (Gn (bdA g m u n) k)):=by
  intro k
  induction k with
  | zero=>exact fun _=>⟨_,rfl,Pst.none fun g ⟨i,hi,_⟩=>by omega⟩
  | succ k ih =>
   intro hk
   obtain⟨p,h1,h2⟩:=ih (by omega)
   have hl:(List.replicate (nB g n) (0:Int)).length=nB g n:=List.length_replicate
   have hB:=Zhu hg hm (Zmj hg m2 (e:=n) (by omega) k)
   have hB:Zbh.f g m u (n:Int) ((List.replicate (nB g n) (0:Int)).set k 1)=some (((n+1:Nat):Int),bdU g m u n k):=hB
   have bl:(bdU g m u n k).length=nB g (n+1):=ZeU ..
   have ul:(unitC (nB g n) k).length=nB g n:=Zd1 ..
   have hC:ZA.f [bdU g m u n k,(List.replicate (nB g n) (0:Int)).set k 1]=some (bdA g m u n k):=concat2 (a:=bdU g m u n k) (b:=unitC (nB g n) k) (by omega) (by omega)
   have al:(bdA g m u n k).length=nB g (n+1)+nB g n:=by
    show(bdU g m u n k++unitC (nB g n) k).length=_
    rw[List.length_append,bl,ul]
   obtain⟨p', h3,h4⟩:=put_ m2 m12 (show nB g (n+1)+nB g n≤100000 by omega) (h2.add (r:=bdA g m u n k) ⟨al,(Zm5 m2 _ _ _ _).append (Zjm m2 _ _)⟩ Zmn)
   refine⟨p', ?_,h4⟩
   rw[h1,Za5.l0_eq,wn (j:=k) (by omega),Int.toNat_natCast]
   ((with_reducible repeat (first|refine Zq (by first|assumption|omega|rfl|exact B_pos (by omega)) ?_|refine Zp (by first|assumption|omega|decide|exact B_not (by omega)) ?_|refine Zk (by first|assumption) ?_|dsimp only));first|done|(with_reducible rfl)|simp (disch:=omega) only[w64]|(show False;done))
 obtain⟨p,h1,h2⟩:=key _ (Nat.le_refl _)
 refine⟨p,?_,h2⟩
 rw[h1,Za5.l0_eq]
 ((with_reducible repeat (first|refine Zq (by first|assumption|omega|rfl|exact B_pos (by omega)) ?_|refine Zp (by first|assumption|omega|decide|exact B_not (by omega)) ?_|refine Zk (by first|assumption) ?_|dsimp only));first|done|(with_reducible rfl)|simp (disch:=omega) only[w64]|(show False;done))
def Zds (p:List (List Int)) (A B:Nat):List (List Int):=(List.range B).map fun j:Nat=>(row p ((A+j:Nat):Int)).drop A
theorem Zh2 {p:List (List Int)} {A B j:Nat} (h:j < B):row (Zds p A B) (j:Int)=(row p ((A+j:Nat):Int)).drop A:=by
 rw[ZdW (by simpa [Zds] using h)]
 simp[Zds]
theorem ZkX (F:Nat→List Int) (B k:Nat) (h:k < B):((List.range k).map F++List.replicate (B - k) []).set k (F k)=(List.range (k+1)).map F++List.replicate (B - (k+1)) []:=by
 rw[List.set_append,if_neg (by simp),List.length_map,List.length_range,Nat.sub_self,show B - k=(B - (k+1))+1 by omega,List.replicate_succ,List.set_cons_zero,List.range_succ,List.map_append]
 simp
theorem ZkW (F:Nat→List Int) (B k:Nat) (h:k < B) (e:F k=[]):(List.range k).map F++List.replicate (B - k) []=(List.range (k+1)).map F++List.replicate (B - (k+1)) []:=by
 rw[show B - k=(B - (k+1))+1 by omega,List.replicate_succ,List.range_succ,List.map_append,List.map_singleton,e]
 simp
theorem ZlO (F:Nat→List Int) (B k:Nat) (h:k≤B):((List.range k).map F++List.replicate (B - k) []).length=B:=by simp;omega
theorem part_ {m:Int} {p:List (List Int)} {A B:Nat} (hA:A≤100000) (hB:B≤100000) (ht:PTab m (A+B) p):ZaL.f m p (A:Int)=some (m,Zds p A B,m,p):=by
 have hl:=ht.len
 have w:wrapI ((p.length:Int) - (A:Int))=(B:Int):=by rw[w64 (by omega) (by omega)];omega
 rw[ZaL.f_eq,w,Zjd m hB,Option.bind_some]
 obtain⟨F,hF⟩:∃F:Nat→List Int,F=fun j:Nat=>(row p ((A+j:Nat):Int)).drop A:=⟨_,rfl⟩
 have loop:=up B (fun k=>ZaL.l0 (A:Int) ((A+k:Nat):Int) m p m ((List.range k).map F++List.replicate (B - k) [])) (fun k hk=>by
  have hw:wrapI (((A+k:Nat):Int) - (A:Int))=(k:Int):=by rw[w64 (by omega) (by omega)];omega
  have rl:=ZlO F B k (by omega)
  have hFk:F k=(row p ((A+k:Nat):Int)).drop A:=by rw[hF]
  rw[show A+(k+1)=A+k+1 from rfl,ZaL.l0_eq,wn (j:=A+k) (by omega),hw]
  simp only[Int.toNat_natCast]
  rw[←hFk]
  by_cases hr:row p ((A+k:Nat):Int)=[]
  ·
   have e0:(row p ((A+k:Nat):Int)).length=0:=by rw[hr];rfl
   rw[←ZkW F B k hk (by rw[hFk,hr];simp)]
   ((with_reducible repeat (first|refine Zq (by first|assumption|omega|rfl|exact B_pos (by omega)) ?_|refine Zp (by first|assumption|omega|decide|exact B_not (by omega)) ?_|refine Zk (by first|assumption) ?_|dsimp only));first|done|(with_reducible rfl)|simp (disch:=omega) only[w64]|(show False;done))
  ·
   have hP:=ht.prow (show A+k < A+B by omega) hr
   have e1:=hP.len
   have e2:(F k).length=B:=by rw[hFk,List.length_drop,e1];omega
   rw[←ZkX F B k hk]
   ((with_reducible repeat (first|refine Zq (by first|assumption|omega|rfl|exact B_pos (by omega)) ?_|refine Zp (by first|assumption|omega|decide|exact B_not (by omega)) ?_|refine Zk (by first|assumption) ?_|dsimp only));first|done|(with_reducible rfl)|simp (disch:=omega) only[w64]|(show False;done)))
 rw[List.range_zero,List.map_nil,List.nil_append,Nat.sub_zero,Nat.add_zero,Nat.sub_self,List.replicate_zero,List.append_nil]at loop
 rw[show Zds p A B=(List.range B).map F by rw[hF];rfl]
 refine loop.trans ?_
 rw[ZaL.l0_eq]
 ((with_reducible repeat (first|refine Zq (by first|assumption|omega|rfl|exact B_pos (by omega)) ?_|refine Zp (by first|assumption|omega|decide|exact B_not (by omega)) ?_|refine Zk (by first|assumption) ?_|dsimp only));first|done|(with_reducible rfl)|simp (disch:=omega) only[w64]|(show False;done))
noncomputable def coM (g:List (List Int)) (m:Int) (u:List Int) (n:Nat):Vc→Prop:=fun x=>Sp m (nB g (n+1)+nB g n) (Gn (bdA g m u n) (nB g n)) (pad (nB g (n+1)) x)
theorem Zhd {m:Int} {p:List (List Int)} {A B:Nat} {M:Vc→Prop} (m0:0 < m) (h:Lead m (A+B) p M):Lead m B (Zds p A B) (fun x=>M (pad A x)) :=
 h.last m0 (by simp[Zds]) fun j hj=>Zh2 hj
theorem Zj5 {g:List (List Int)} (hg:Grp g) {m:Int} {u:List Int} (hm:Mdl g m u) {n:Nat} (hn:n≤3) :
  ∃q,Zbu.f g m u (n:Int)=some (m,q)∧Lead m (nB g n) q (coM g m u n):=by
 have m2:=hm.m2
 obtain⟨b1,b2⟩:=nA_bd hg (e:=n) (by omega)
 obtain⟨c1,c2⟩:=nA_bd hg (e:=n+1) (by omega)
 obtain⟨p,h1,h2⟩:=Zlm hg hm hn
 have h3:=h2.lead (by omega)
 have h4:=part_ (m:=m) (A:=nB g (n+1)) (B:=nB g n) (by omega) (by omega) h3.tab
 refine⟨_,?_,Zhd (by omega) h3⟩
 rw[Zbu.f_eq]
 ((with_reducible repeat (first|refine Zq (by first|assumption|omega|rfl|exact B_pos (by omega)) ?_|refine Zp (by first|assumption|omega|decide|exact B_not (by omega)) ?_|refine Zk (by first|assumption) ?_|dsimp only));first|done|(with_reducible rfl)|simp (disch:=omega) only[w64]|(show False;done))
noncomputable def allM (g:List (List Int)) (m:Int) (u:List Int) (e:Nat):Vc→Prop:=Sp m (nB g (e+1)+nB g e) (Gn (bdA g m u e) (nB g e))
end Go.Proofs.YthmcpmnhdbeahaaGreat.V
namespace Go.Proofs.YthmcpmnhdbeahaaGreat.V
open Go.RowKit Go.Proofs.YthmcpmnhdbeahaaGreat.D
def sgn:Nat→Int
 | 0 => -1
 | j+1=>0 - sgn j
def sumJ (g:List (List Int)) (A:List Int→Int) (xs:List Int):Nat→Int
 | 0=>0
 | j+1=>sumJ g A xs j+sgn j*A (join2 g xs j)
def BdS (g:List (List Int)) (u:List Int) (A:List Int→Int) (xs:List Int) (d:Nat):Int:=rd u (rd xs 0)*A (xs.drop 1)+sumJ g A xs d+sgn d*A (xs.take d)
theorem Bd_eq (g:List (List Int)) (u v xs:List Int) (d:Nat):Bd g u v xs d=BdS g u (At g v) xs d:=by
 have h:∀j,bsum g u v xs j=(rd u (rd xs 0)*At g v (xs.drop 1)+sumJ g (At g v) xs j,sgn j):=by
  intro j
  induction j with
  | zero=>simp[bsum,sumJ,sgn]
  | succ j ih=>simp only[bsum,ih,sumJ,sgn,Int.add_assoc]
 unfold Bd BdS
 rw[h d]
theorem ZlV (g:List (List Int)) (A A' : List Int→Int) (c:Int) (xs:List Int):∀d,sumJ g (fun l=>A l+c*A' l) xs d=sumJ g A xs d+c*sumJ g A' xs d:=by
 intro d
 induction d with
 | zero=>simp[sumJ]
 | succ d ih =>
  simp only[sumJ,ih,Int.mul_add]
  rw[←Int.mul_assoc (sgn d) c,Int.mul_comm (sgn d) c,Int.mul_assoc]
  omega
theorem Zml (g:List (List Int)) (u:List Int) (A A' : List Int→Int) (c:Int) (xs:List Int) (d:Nat):BdS g u (fun l=>A l+c*A' l) xs d=BdS g u A xs d+c*BdS g u A' xs d:=by
 unfold BdS
 rw[ZlV]
 simp only[Int.mul_add]
 rw[←Int.mul_assoc (sgn d) c,Int.mul_comm (sgn d) c,Int.mul_assoc,←Int.mul_assoc (rd u (rd xs 0)) c,Int.mul_comm (rd u (rd xs 0)) c,Int.mul_assoc]
 omega
noncomputable def AtF (g:List (List Int)) (h:Vc) (xs:List Int):Int:=ite_ (ZcM xs) (h (idx g xs).toNat) 0
theorem At_F (g:List (List Int)) (v:List Int):At g v=AtF g (V v):=by
 funext xs
 unfold At AtF
 by_cases h:ZcM xs
 ·
  rw[ZbU h,ZbU h];show v.getD (idx g xs).toNat 0=v.getD ((((idx g xs).toNat:Nat):Int)).toNat 0;rw[Int.toNat_natCast]
 ·
  rw[ZbW h,ZbW h]
theorem Zmk (g:List (List Int)) (h h' : Vc) (c:Int):AtF g (fun i=>h i+c*h' i)=fun l=>AtF g h l+c*AtF g h' l:=by
 funext xs
 unfold AtF
 by_cases k:ZcM xs
 ·
  simp only[ZbU k]
 ·
  simp only[ZbW k];omega
theorem Zle (g:List (List Int)):AtF g (fun _=>0)=fun _=>0:=by
 funext xs
 unfold AtF
 by_cases k:ZcM xs
 ·
  rw[ZbU k]
 ·
  rw[ZbW k]
theorem Zk7 (g:List (List Int)) (xs:List Int):∀d,sumJ g (fun _=>0) xs d=0:=by
 intro d
 induction d with
 | zero=>rfl
 | succ d ih=>simp[sumJ,ih]
theorem Zlf (g:List (List Int)) (u xs:List Int) (d:Nat):BdS g u (fun _=>0) xs d=0:=by unfold BdS;rw[Zk7];simp
theorem Zmc {g:List (List Int)} (hg:Grp g) {e:Nat} (he:e≤3) {xs:List Int} (hx:AllIn g.length xs) (hl:xs.length=e) (h:ZcM xs):0≤idx g xs∧(idx g xs).toNat < nB g e:=by
 obtain⟨a,b⟩:=ZfT hg (Zmj hg (m:=2) (by omega) he 0) hx (by omega) h
 rw[Zd1]at b
 have:((cells g (e:Int)).toNat:Int)=((nB g e:Nat):Int):=rfl
 omega
theorem ZfA {g:List (List Int)} (hg:Grp g) {m:Int} {e:Nat} (he:e≤3) {h h' : Vc} (hh:∀i,i < nB g e→m∣h i - h' i) {xs:List Int} (hx:AllIn g.length xs) (hl:xs.length=e):m∣AtF g h xs - AtF g h' xs:=by
 unfold AtF
 by_cases k:ZcM xs
 ·
  rw[ZbU k,ZbU k]
  exact hh _ (Zmc hg he hx hl k).2
 ·
  rw[ZbW k,ZbW k]
  exact⟨0,by omega⟩
theorem Zdm {m a b c:Int} (h:m∣a - b):m∣c*a - c*b:=by
 rw[←Int.mul_sub];exact Int.dvd_mul_of_dvd_right h
theorem Zdl {m a b c d:Int} (h:m∣a - b) (h' : m∣c - d):m∣(a+c) - (b+d):=by
 have:=Int.dvd_add h h'
 rwa[show a - b+(c - d)=a+c - (b+d)by omega]at this
theorem Zhn {g:List (List Int)} (hg:Grp g) {m:Int} {u:List Int} {e:Nat} (he:e≤3) {h h' : Vc} (hh:∀i,i < nB g e→m∣h i - h' i) {xs:List Int} (hx:AllIn g.length xs) (hl:xs.length=e+1):m∣BdS g u (AtF g h) xs e - BdS g u (AtF g h') xs e:=by
 unfold BdS
 refine Zdl (Zdl (Zdm (ZfA hg he hh (hx.drop 1) (by rw[List.length_drop];omega))) ?_) (Zdm (ZfA hg he hh (hx.take e) (by rw[List.length_take];omega)))
 have:∀d,d≤e→m∣sumJ g (AtF g h) xs d - sumJ g (AtF g h') xs d:=by
  intro d
  induction d with
  | zero=>intro _;exact⟨0,by simp[sumJ]⟩
  | succ d ih =>
   intro hd
   obtain⟨k1,k2⟩:=ZgY hg hx (j:=d) (by omega)
   exact Zdl (ih (by omega)) (Zdm (ZfA hg he hh k1 (by omega)))
 exact this e (Nat.le_refl _)
def Bnd (g:List (List Int)) (m:Int) (u:List Int) (e:Nat) (z:Vc):Prop:=∀i,i < nB g (e+1)→m∣z i - BdS g u (AtF g fun k=>z (nB g (e+1)+k)) (lst ((g.length:Int) - 1) (e+1) (i:Int)) e
theorem Zkv {g:List (List Int)} (hg:Grp g) {e i:Nat} (he:e≤3) (hi:i < nB g (e+1)):AllIn g.length (lst ((g.length:Int) - 1) (e+1) (i:Int))∧ZcM (lst ((g.length:Int) - 1) (e+1) (i:Int)):=by
 obtain⟨c1,c2⟩:=nA_bd hg (e:=e+1) (by omega)
 exact Zku hg (n:=e+1) (by omega)
theorem ZiR {g:List (List Int)} (hg:Grp g) {m:Int} (m2:2≤m) {u:List Int} {e:Nat} (he:e≤3) {z:Vc} (hz:allM g m u e z):Bnd g m u e z:=by
 have hs:Sub m (nB g (e+1)+nB g e) (Bnd g m u e):=by
  refine⟨fun i hi => ?_,fun x y hx hy c i hi => ?_,fun x y hx h i hi => ?_⟩
  ·
   rw[Zle,Zlf];exact⟨0,by dsimp only;omega⟩
  ·
   have e1:=Zmk g (fun k=>x (nB g (e+1)+k)) (fun k=>y (nB g (e+1)+k)) c
   rw[e1,Zml]
   exact Zdl (hx i hi) (Zdm (hy i hi))
  ·
   have h1:=hx i hi
   have h2:=h i (by omega)
   have h3:=Zhn hg (u:=u) he (h:=fun k=>x (nB g (e+1)+k)) (h' := fun k=>y (nB g (e+1)+k)) (m:=m) (fun k hk=>h _ (by omega)) (Zkv hg he hi).1 (Ze4 ..)
   have:=Int.dvd_add (Int.dvd_sub h1 h2) h3
   rwa[show ∀a b c d:Int,a - b - (a - c)+(b - d)=c - d from fun a b c d=>by omega]at this
 refine hs.all (fun w hw => ?_) hz
 obtain⟨k,hk,rfl⟩:=hw
 intro i hi
 have bl:(bdU g m u e k).length=nB g (e+1):=ZeU ..
 have e1:(fun j=>V (bdA g m u e k) (nB g (e+1)+j))=V (unitC (cells g (e:Int)).toNat k):=by
  funext j
  show rd (bdU g m u e k++unitC (nB g e) k) ((nB g (e+1)+j:Nat):Int)=rd (unitC (nB g e) k) (j:Int)
  rw[ZcO (by omega),bl,show nB g (e+1)+j - nB g (e+1)=j by omega]
 have e2:V (bdA g m u e k) i=bdV g u (unitC (cells g (e:Int)).toNat k) e i%m:=by
  show rd (bdU g m u e k++unitC (nB g e) k) (i:Int)=_
  rw[Zc4 (by omega),rd_get (by omega)]
  simp only[bdU,bdL,List.getElem_map,List.getElem_range]
 rw[e1,e2,←At_F,←Bd_eq]
 exact⟨-(bdV g u (unitC (cells g (e:Int)).toNat k) e i / m),by
  have:=Int.mul_ediv_add_emod (bdV g u (unitC (cells g (e:Int)).toNat k) e i) m
  rw[Int.mul_neg]
  show bdV g u (unitC (cells g (e:Int)).toNat k) e i%m - bdV g u (unitC (cells g (e:Int)).toNat k) e i=_
  omega⟩
noncomputable def sumA (g:List (List Int)) (m:Int) (u:List Int) (e:Nat) (y:Vc):Nat→Vc
 | 0=>fun _=>0
 | k+1=>fun i=>sumA g m u e y k i+y k*V (bdA g m u e k) i
theorem ZlU {g:List (List Int)} {m:Int} {u:List Int} {e:Nat} (y:Vc):∀k,k≤nB g e→allM g m u e (sumA g m u e y k):=by
 intro k
 induction k with
 | zero=>exact fun _ => .nil
 | succ k ih=>exact fun hk => .add _ (ih (by omega)) ⟨k,by omega,rfl⟩
theorem ZlY {c k j:Nat} (hk:k < c):rd (unitC c k) (j:Int)=if j=k then 1 else 0:=by
 unfold unitC
 by_cases e:j=k
 ·
  subst e;rw[if_pos rfl,ZiF (by simpa using hk)]
 ·
  rw[if_neg e,ZkS e,ZeM]
theorem Zk6 {g:List (List Int)} {m:Int} {u:List Int} {e:Nat} (y:Vc) (j:Nat):∀k,k≤nB g e→sumA g m u e y k (nB g (e+1)+j)=if j < k then y j else 0:=by
 intro k
 induction k with
 | zero=>intro _;simp[sumA]
 | succ k ih =>
  intro hk
  have bl:(bdU g m u e k).length=nB g (e+1):=ZeU ..
  have e1:V (bdA g m u e k) (nB g (e+1)+j)=if j=k then 1 else 0:=by
   show rd (bdU g m u e k++unitC (nB g e) k) ((nB g (e+1)+j:Nat):Int)=_
   rw[ZcO (by omega),bl,show nB g (e+1)+j - nB g (e+1)=j by omega,ZlY (by omega)]
  show sumA g m u e y k (nB g (e+1)+j)+y k*V (bdA g m u e k) (nB g (e+1)+j)=_
  rw[ih (by omega),e1]
  by_cases h1:j < k
  ·
   rw[if_pos h1,if_neg (by omega),if_pos (by omega)];omega
  ·
   by_cases h2:j=k
   ·
    subst h2;rw[if_neg h1,if_pos rfl,if_pos (by omega)];omega
   ·
    rw[if_neg h1,if_neg h2,if_neg (by omega)];omega
theorem Zll {g:List (List Int)} (hg:Grp g) {m:Int} (m2:2≤m) {u:List Int} {e:Nat} (he:e≤3) {z:Vc} (hz:Bnd g m u e z):allM g m u e z:=by
 have h1:=ZlU (g:=g) (m:=m) (u:=u) (e:=e) (fun k=>z (nB g (e+1)+k)) (nB g e) (Nat.le_refl _)
 have h2:=ZiR hg m2 he h1
 have ht:∀j,j < nB g e→sumA g m u e (fun k=>z (nB g (e+1)+k)) (nB g e) (nB g (e+1)+j)=z (nB g (e+1)+j):=fun j hj=>by
  rw[Zk6 _ _ _ (Nat.le_refl _),if_pos hj]
 refine .alike h1 fun i hi => ?_
 by_cases k:i < nB g (e+1)
 ·
  have a:=h2 i k
  have b:=hz i k
  have c:=Zhn hg (u:=u) (m:=m) he (h:=fun k=>sumA g m u e (fun k=>z (nB g (e+1)+k)) (nB g e) (nB g (e+1)+k)) (h' := fun k=>z (nB g (e+1)+k)) (fun j hj=>Zca (ht j hj)) (Zkv hg he k).1 (Ze4 ..)
  have:=Int.dvd_sub (Int.dvd_add a c) b
  rwa[show ∀a b c d:Int,a - b+(b - c) - (d - c)=a - d from fun a b c d=>by omega]at this
 ·
  obtain⟨j,rfl⟩:∃j,i=nB g (e+1)+j:=⟨i - nB g (e+1),by omega⟩
  exact Zca (ht j (by omega))
theorem ZiS {g:List (List Int)} (hg:Grp g) {m:Int} (m2:2≤m) {u:List Int} {e:Nat} (he:e≤3) {w y:List Int} (hw:w.length=nB g (e+1)):allM g m u e (V (w++y))↔∀i,i < nB g (e+1)→m∣rd w (i:Int) - bdV g u y e i:=by
 have e1:(fun k=>V (w++y) (nB g (e+1)+k))=V y:=by
  funext k
  show rd (w++y) ((nB g (e+1)+k:Nat):Int)=rd y (k:Int)
  rw[ZcO (by omega),hw,show nB g (e+1)+k - nB g (e+1)=k by omega]
 have e2:Bnd g m u e (V (w++y))↔∀i,i < nB g (e+1)→m∣rd w (i:Int) - bdV g u y e i:=by
  unfold Bnd
  rw[e1]
  constructor
  ·
   intro h i hi
   have:=h i hi
   rw[←At_F,←Bd_eq]at this
   rwa[show V (w++y) i=rd w (i:Int)from Zc4 (by omega)]at this
  ·
   intro h i hi
   rw[←At_F,←Bd_eq,show V (w++y) i=rd w (i:Int)from Zc4 (by omega)]
   exact h i hi
 exact⟨fun h=>e2.1 (ZiR hg m2 he h),fun h=>Zll hg m2 he (e2.2 h)⟩
end Go.Proofs.YthmcpmnhdbeahaaGreat.V
namespace Go.Proofs.YthmcpmnhdbeahaaGreat.V
open Go.RowKit Go.Proofs.YthmcpmnhdbeahaaGreat.D Go.Proofs.YthmcpmnhdbeahaaGreat.P
theorem ZmU {xs:List Int} {n:Nat} (h:xs.length=n+1):∃ys x,xs=ys++[x]∧ys.length=n:=by
 have hne:xs≠[]:=fun e=>by rw[e]at h;simp at h
 refine⟨xs.dropLast,xs.getLast hne,(List.dropLast_concat_getLast hne).symm,by rw[List.length_dropLast];omega⟩
theorem ZmG {g:List (List Int)}:∀(n:Nat) (xs:List Int),xs.length=n→(∀x∈xs,1≤x∧x < g.length)→lst ((g.length:Int) - 1) n (idx g xs)=xs:=by
 intro n
 induction n with
 | zero=>intro xs hl _;rw[List.eq_nil_of_length_eq_zero hl];rfl
 | succ n ih =>
  intro xs hl hx
  obtain⟨ys,x,rfl,hy⟩:=ZmU hl
  obtain⟨x0,x1⟩:=hx x (by simp)
  rw[ZgW,lst]
  have e1:(idx g ys*((g.length:Int) - 1)+x - 1) / ((g.length:Int) - 1)=idx g ys:=by
   rw[show idx g ys*((g.length:Int) - 1)+x - 1=(x - 1)+idx g ys*((g.length:Int) - 1)by omega,Int.add_mul_ediv_right _ _ (by omega),Int.ediv_eq_zero_of_lt (by omega) (by omega)]
   omega
  have e2:(idx g ys*((g.length:Int) - 1)+x - 1)%((g.length:Int) - 1)=x - 1:=by
   rw[show idx g ys*((g.length:Int) - 1)+x - 1=(x - 1)+idx g ys*((g.length:Int) - 1)by omega,Int.add_mul_emod_self_right,Int.emod_eq_of_lt (by omega) (by omega)]
  rw[e1,e2,ih ys hy fun z hz=>hx z (by simp[hz]),show x - 1+1=x by omega]
theorem ZmC {g:List (List Int)}:∀(n:Nat) (i:Int),0≤i→i < ((g.length:Int) - 1) ^ n→(n=0∨2≤g.length)→idx g (lst ((g.length:Int) - 1) n i)=i:=by
 intro n
 induction n with
 | zero=>intro i i0 i1 _;rw[Int.pow_zero]at i1;simp[lst,idx];omega
 | succ n ih =>
  intro i i0 i1 h2
  have hb:0 < (g.length:Int) - 1:=by omega
  rw[lst,ZgW,ih _ (Int.ediv_nonneg i0 (by omega)) (by
   rw[Int.pow_succ]at i1
   exact Int.ediv_lt_of_lt_mul hb i1) (by omega)]
  have:=Int.mul_ediv_add_emod i ((g.length:Int) - 1)
  rw[Int.mul_comm]at this
  omega
def ConP (g:List (List Int)) (m:Int) (u v r:List Int) (n:Nat):Prop:=∀x:Int,0≤x→x < n→∀y:Int,0≤y→y < n→T g x y < n→(rd r x+rd u x*rd r y+At g v [x,y])%m=rd r (T g x y)
theorem ConP.pre {g:List (List Int)} {m:Int} {u v r r' : List Int} {n n' : Nat} (h:ConP g m u v r n) (hn:n' ≤ n) (hg:Grp g) (hN:n≤g.length) (he:∀i:Int,0≤i→i < n' → rd r' i=rd r i):ConP g m u v r' n' := by
 intro x x0 x1 y y0 y1 ht
 have e:=h x x0 (by omega) y y0 (by omega) (by omega)
 obtain⟨t0,_⟩:=hg.ent x y x0 (by omega) y0 (by omega)
 rw[he x x0 x1,he y y0 y1,he _ t0 ht]
 exact e
theorem Zhk {r l:List Int} (h:r.take l.length=l) {i:Int} (i0:0≤i) (i1:i < l.length):rd l i=rd r i:=by
 obtain⟨n,rfl⟩:=Int.eq_ofNat_of_zero_le i0
 rw[←h,ZdV (by omega)]
theorem ZmD {g:List (List Int)} (z:Int):idx g [z]=z - 1:=by simp[idx]
theorem ZjO {g:List (List Int)} {h:List Int} {z:Int} (z0:0≤z):At g h [z]=rd (0 :: h) z:=by
 unfold At
 by_cases e:z=0
 ·
  rw[ZbW (fun q=>q 0 (by omega) (by simp) (by simp[rd,e]))]
  simp[rd,e]
 ·
  rw[ZbU (show ZcM [z]from fun j j0 j1=>by
   have:j=0:=by simp at j1;omega
   subst this
   exact e),ZmD]
  obtain⟨n,rfl⟩:=Int.eq_ofNat_of_zero_le z0
  cases n with
  | zero=>exact absurd rfl e
  | succ n =>
   simp only[rd]
   rw[show(((n+1:Nat):Int) - 1).toNat=n by omega,Int.toNat_natCast]
   rfl
theorem Zm6 {g:List (List Int)} {u h:List Int} {x y:Int}:Bd g u h [x,y] 1=rd u x*At g h [y] - At g h [T g x y]+At g h [x]:=by
 simp only[Bd,bsum,join2,List.take_zero,List.nil_append,List.drop_succ_cons,List.drop_zero,List.take_succ_cons]
 have e0:rd [x,y] 0=x:=rfl
 have e1:rd [x,y] ((0+1:Nat):Int)=y:=rfl
 have e2:rd [x,y] ((0:Nat):Int)=x:=rfl
 rw[e0,e1,e2,List.append_nil]
 omega
theorem ZlX {g:List (List Int)} {i:Int}:∃x y,lst ((g.length:Int) - 1) 2 i=[x,y]:=⟨_,_,rfl⟩
theorem Zmz {g:List (List Int)} (hg:Grp g) {m:Int} {u v h w:List Int} (hm:Mdl g m u) (hc:Co g m 2 v) (hl:h.length=nB g 1) (ha:AllIn m h) (hw:w.length=nB g 2) (hwv:∀i,i < nB g 2→m∣rd w (i:Int)+rd v (i:Int)) :
  ConP g m u v (0 :: h) g.length↔allM g m u 1 (V (w++h)):=by
 have m2:=hm.m2;have m12:=hm.m12;have n1:=hg.n1;have n8:=hg.n8
 obtain⟨c1,c2⟩:=nA_bd hg (e:=2) (by omega)
 obtain⟨b1,b2⟩:=nA_bd hg (e:=1) (by omega)
 have hN1:(nB g 1:Int)=g.length - 1:=by rw[b2];show((g.length:Int) - 1) ^ 1=_;rw[Int.pow_succ,Int.pow_zero];omega
 have hal:AllIn m (0 :: h):=Zb8 fun z hz=>by
  rcases List.mem_cons.1 hz with rfl|hz
  ·
   omega
  ·
   exact ha.mem hz
 have hrl:((0 :: h).length:Int)=g.length:=by rw[List.length_cons];omega
 rw[ZiS hg m2 (by omega) hw]
 have key:∀x y:Int,0≤x→x < g.length→0≤y→y < g.length→((rd (0 :: h) x+rd u x*rd (0 :: h) y+At g v [x,y])%m=rd (0 :: h) (T g x y)↔m∣At g v [x,y]+Bd g u h [x,y] 1):=fun x y x0 x1 y0 y1=>by
  obtain⟨t0,t1⟩:=hg.ent x y x0 x1 y0 y1
  obtain⟨r0,r1⟩:=hal (T g x y) t0 (by omega)
  rw[Zm6,ZjO x0,ZjO y0,ZjO t0]
  constructor
  ·
   intro q
   have:=Int.mul_ediv_add_emod (rd (0 :: h) x+rd u x*rd (0 :: h) y+At g v [x,y]) m
   rw[q]at this
   exact⟨(rd (0 :: h) x+rd u x*rd (0 :: h) y+At g v [x,y]) / m,by omega⟩
  ·
   rintro⟨q,hq⟩
   rw[show rd (0 :: h) x+rd u x*rd (0 :: h) y+At g v [x,y]=rd (0 :: h) (T g x y)+m*q by omega,Int.add_mul_emod_self_left,Int.emod_eq_of_lt r0 r1]
 have hval:∀i:Nat,i < nB g 2→∃x y:Int,1≤x∧x < g.length∧1≤y∧y < g.length∧lst ((g.length:Int) - 1) 2 (i:Int)=[x,y]∧At g v [x,y]=rd v (i:Int):=fun i hi=>by
  obtain⟨x,y,e⟩:=ZlX (g:=g) (i:=(i:Int))
  obtain⟨hx,hn⟩:=Zkv hg (e:=1) (by omega) hi
  have hL:lst ((g.length:Int) - 1) (1+1) (i:Int)=[x,y]:=e
  rw[hL]at hx hn
  have hx0:=hx.mem (show x∈[x,y]by simp)
  have hy0:=hx.mem (show y∈[x,y]by simp)
  have nx:¬ x=0:=hn 0 (by omega) (by simp)
  have ny:¬ y=0:=hn 1 (by omega) (by simp)
  refine⟨x,y,by omega,by omega,by omega,by omega,e,?_⟩
  have hi2:(i:Int) < ((g.length:Int) - 1) ^ 2:=by
   have:cells g 2=((g.length:Int) - 1) ^ 2:=rfl
   have c2' : ((nB g 2:Nat):Int)=cells g 2:=c2
   omega
  have:=ZmC (g:=g) 2 (i:Int) (by omega) hi2 (by omega)
  rw[e]at this
  unfold At
  rw[ZbU hn,this]
 constructor
 ·
  intro hC i hi
  obtain⟨x,y,x0,x1,y0,y1,e,hv⟩:=hval i hi
  have h1:=(key x y (by omega) x1 (by omega) y1).1 (hC x (by omega) x1 y (by omega) y1 (hg.ent x y (by omega) x1 (by omega) y1).2)
  rw[hv]at h1
  have e2:bdV g u h 1 i=Bd g u h [x,y] 1:=by show Bd g u h (lst ((g.length:Int) - 1) 2 (i:Int)) 1=_;rw[e]
  rw[e2]
  have:=Int.dvd_sub (hwv i hi) h1
  rwa[show ∀a b c:Int,a+b - (b+c)=a - c from fun a b c=>by omega]at this
 ·
  intro hB x x0 x1 y y0 y1 _
  have one:=hm.one hg
  by_cases hx:x=0
  ·
   subst hx
   have z:At g v [0,y]=0:=by unfold At;rw[ZbW fun q=>q 0 (by omega) (by simp) rfl]
   obtain⟨r0,r1⟩:=hal y y0 (by omega)
   rw[z,hg.one y y0 y1,one,show rd (0 :: h) (0:Int)=0 from rfl,Int.one_mul,Int.zero_add,Int.add_zero,Int.emod_eq_of_lt r0 r1]
  by_cases hy:y=0
  ·
   subst hy
   have z:At g v [x,0]=0:=by unfold At;rw[ZbW fun q=>q 1 (by omega) (by simp) rfl]
   obtain⟨r0,r1⟩:=hal x x0 (by omega)
   rw[z,hg.one' x x0 x1,show rd (0 :: h) (0:Int)=0 from rfl,Int.mul_zero,Int.add_zero,Int.add_zero,Int.emod_eq_of_lt r0 r1]
  refine(key x y x0 x1 y0 y1).2 ?_
  have hnu:ZcM [x,y]:=fun j j0 j1=>by
   have:j=0∨j=1:=by simp at j1;omega
   rcases this with rfl|rfl
   ·
    exact hx
   ·
    exact hy
  obtain⟨i0,i1⟩:=Zmc hg (e:=2) (by omega) (Zhr x0 x1 y0 y1) rfl hnu
  have hL:=ZmG (g:=g) 2 [x,y] rfl (fun z hz=>by
   simp only[List.mem_cons,List.not_mem_nil,or_false]at hz
   rcases hz with rfl|rfl <;> omega)
  have h2:=hB (idx g [x,y]).toNat i1
  have e2:bdV g u h 1 (idx g [x,y]).toNat=Bd g u h [x,y] 1:=by
   show Bd g u h (lst ((g.length:Int) - 1) 2 (((idx g [x,y]).toNat:Nat):Int)) 1=_
   rw[Int.toNat_of_nonneg i0,hL]
  have e3:At g v [x,y]=rd v ((((idx g [x,y]).toNat:Nat)):Int):=by
   unfold At
   rw[ZbU hnu,Int.toNat_of_nonneg i0]
  rw[e2]at h2
  rw[e3]
  have:=Int.dvd_sub (hwv _ i1) h2
  rwa[show ∀a b c:Int,a+b - (a - c)=b+c from fun a b c=>by omega]at this
end Go.Proofs.YthmcpmnhdbeahaaGreat.V
set_option maxRecDepth 100000
namespace Go.Proofs.YthmcpmnhdbeahaaGreat.P
open Go Go.RowKit Go.Proofs.YthmcpmnhdbeahaaGreat.D
end Go.Proofs.YthmcpmnhdbeahaaGreat.P
namespace Go.Proofs.YthmcpmnhdbeahaaGreat.P
open Go Go.RowKit Go.Proofs.YthmcpmnhdbeahaaGreat.D
end Go.Proofs.YthmcpmnhdbeahaaGreat.P
namespace Go.Proofs.YthmcpmnhdbeahaaGreat.P
open Go Go.RowKit Go.Proofs.YthmcpmnhdbeahaaGreat.D
end Go.Proofs.YthmcpmnhdbeahaaGreat.P
namespace Go.Proofs.YthmcpmnhdbeahaaGreat.P
open Go Go.RowKit Go.Proofs.YthmcpmnhdbeahaaGreat.D
end Go.Proofs.YthmcpmnhdbeahaaGreat.P
namespace Go.Proofs.YthmcpmnhdbeahaaGreat.P
open Go Go.RowKit Go.Proofs.YthmcpmnhdbeahaaGreat.D
end Go.Proofs.YthmcpmnhdbeahaaGreat.P
namespace Go.Proofs.YthmcpmnhdbeahaaGreat.P
open Go Go.RowKit Go.Proofs.YthmcpmnhdbeahaaGreat.D
end Go.Proofs.YthmcpmnhdbeahaaGreat.P
set_option maxHeartbeats 2000000
set_option maxRecDepth 20000
namespace Go.Proofs.YthmcpmnhdbeahaaGreat.V
open Go.RowKit Go.Proofs.YthmcpmnhdbeahaaGreat.D Go.Proofs.YthmcpmnhdbeahaaGreat.P
theorem ZjK {n m p:Int} (hm:0 < m) (h0:0≤p) (h1:p < n*m):0≤p / m∧p / m < n∧0≤p%m∧p%m < m :=
 ⟨Int.ediv_nonneg h0 (by omega),Int.ediv_lt_of_lt_mul hm h1,Int.emod_nonneg _ (by omega),Int.emod_lt_of_pos _ hm⟩
def Nums (g:List (List Int)) (m:Int) (l:List Int):Prop:=(l.length:Int)=g.length∧AllIn m l
def Crs (g:List (List Int)) (m:Int) (u l:List Int):Prop:=∀x:Int,0≤x→x < g.length→∀y:Int,0≤y→y < g.length→rd l (T g x y)=(rd l x+rd u x*rd l y)%m
theorem Zmv {m a b:Int} (m0:0 < m) (b0:0≤b) (b1:b < m):(a - b).tmod m=0↔b=a%m:=by
 have e:(a - b).tmod m=0↔m∣(a - b):=⟨Int.dvd_of_tmod_eq_zero,Int.tmod_eq_zero_of_dvd⟩
 rw[e]
 constructor
 ·
  intro h
  have:=(Int.emod_emod_of_dvd a (Int.dvd_refl m))
  have h2:a%m=b%m:=Int.emod_eq_emod_iff_emod_sub_eq_zero.2 (Int.emod_eq_zero_of_dvd h)
  rw[h2,Int.emod_eq_of_lt b0 b1]
 ·
  intro h
  have h2:a%m=b%m:=by rw[Int.emod_eq_of_lt b0 b1];exact h.symm
  exact Int.dvd_of_emod_eq_zero (Int.emod_eq_emod_iff_emod_sub_eq_zero.1 h2)
theorem ZeB {g:List (List Int)} {m:Int} {u l:List Int} (hg:Grp g) (hm:Mdl g m u) (hn:Nums g m l):Z7.f g m u l=some (B (Crs g m u l)):=by
 have n8:=hg.n8;have m2:=hm.m2;have m12:=hm.m12;have hlu:=hm.len
 obtain⟨hl,ha⟩:=hn
 rw[Z7.f_eq,Zan.f_eq,Option.bind_some]
 refine scanT g.length (fun x=>Z7.l0 l (g.length:Int) x g m u) (fun x=>∀y:Int,0≤y→y < g.length→rd l (T g x y)=(rd l x+rd u x*rd l y)%m) (fun x x0 x1 _ => ?_) (fun _=>by(rw[Z7.l0_eq]);((with_reducible repeat (first|refine Zq (by first|assumption|omega|rfl|exact B_pos (by omega)) ?_|refine Zp (by first|assumption|omega|decide|exact B_not (by omega)) ?_|refine Zk (by first|assumption) ?_|dsimp only));first|done|(with_reducible rfl)|simp (disch:=omega) only[w64]|(show False;done)))
 have inner:=scanI g.length (fun y=>Z7.l1 l x (g.length:Int) x (g.length:Int) y g m u) (fun y=>rd l (T g x y)=(rd l x+rd u x*rd l y)%m) (some false) (Z7.l0 l (g.length:Int) (x+1) g m u) (fun y y0 y1 _=>by
  obtain⟨e0,e1⟩:=hg.ent x y x0 x1 y0 y1
  obtain⟨a0,a1⟩:=ha x x0 (by omega)
  obtain⟨b0,b1⟩:=ha y y0 (by omega)
  obtain⟨c0,c1⟩:=ha _ e0 (by omega)
  obtain⟨s0,s1⟩:=ZcK hm x0 x1 b0 b1
  have ht:=times2 hg x0 x1 y0 y1
  have key:=Zmv (m:=m) (a:=rd l x+rd u x*rd l y) (by omega) c0 c1
  rw[Z7.l1_eq,ht,Option.bind_some,w64 (x:=rd u x*rd l y) (by omega) (by omega),w64 (x:=rd l x+rd u x*rd l y) (by omega) (by omega),w64 (x:=rd l x+rd u x*rd l y - rd l (T g x y)) (by omega) (by omega)]
  refine⟨fun h => ?_,fun h => ?_⟩
  ·
   have h' := key.2 h
   ((with_reducible repeat (first|refine Zq (by first|assumption|omega|rfl|exact B_pos (by omega)) ?_|refine Zp (by first|assumption|omega|decide|exact B_not (by omega)) ?_|refine Zk (by first|assumption) ?_|dsimp only));first|done|(with_reducible rfl)|simp (disch:=omega) only[w64]|(show False;done))
  ·
   have h' := fun q=>h (key.1 q)
   ((with_reducible repeat (first|refine Zq (by first|assumption|omega|rfl|exact B_pos (by omega)) ?_|refine Zp (by first|assumption|omega|decide|exact B_not (by omega)) ?_|refine Zk (by first|assumption) ?_|dsimp only));first|done|(with_reducible rfl)|simp (disch:=omega) only[w64]|(show False;done))) (fun _=>by(rw[Z7.l1_eq]);((with_reducible repeat (first|refine Zq (by first|assumption|omega|rfl|exact B_pos (by omega)) ?_|refine Zp (by first|assumption|omega|decide|exact B_not (by omega)) ?_|refine Zk (by first|assumption) ?_|dsimp only));first|done|(with_reducible rfl)|simp (disch:=omega) only[w64]|(show False;done)))
 refine⟨fun h => ?_,fun h => ?_⟩ <;> rw[Z7.l0_eq,Zan.f_eq,Option.bind_some] <;> (with_reducible repeat (first|refine Zq (by first|assumption|omega|rfl|exact B_pos (by omega)) ?_|refine Zp (by first|assumption|omega|decide|exact B_not (by omega)) ?_|refine Zk (by first|assumption) ?_|dsimp only))
 ·
  exact inner.1 h
 ·
  exact inner.2 h
theorem ZiN {g:List (List Int)} {m:Int} {u l:List Int} (hg:Grp g) (hm:Mdl g m u) (hn:Nums g m l):ZU.f g m u l=some (B (Crs g m u l)):=by
 have n8:=hg.n8;have m2:=hm.m2;have m12:=hm.m12;have hlu:=hm.len
 obtain⟨hl,ha⟩:=hn
 rw[ZU.f_eq]
 refine scanT g.length (fun x=>ZU.l0 l x g m u) (fun x=>∀y:Int,0≤y→y < g.length→rd l (T g x y)=(rd l x+rd u x*rd l y)%m) (fun x x0 x1 _ => ?_) (fun _=>by rw[ZU.l0_eq,Zao.f_eq,Option.bind_some];((with_reducible repeat (first|refine Zq (by first|assumption|omega|rfl|exact B_pos (by omega)) ?_|refine Zp (by first|assumption|omega|decide|exact B_not (by omega)) ?_|refine Zk (by first|assumption) ?_|dsimp only));first|done|(with_reducible rfl)|simp (disch:=omega) only[w64]|(show False;done)))
 have rx:=hg.row x x0 x1
 have inner:=scanI g.length (fun y=>ZU.l1 l x y g m u) (fun y=>rd l (T g x y)=(rd l x+rd u x*rd l y)%m) (some false) (ZU.l0 l (x+1) g m u) (fun y y0 y1 _=>by
  obtain⟨e0,e1⟩:=hg.ent x y x0 x1 y0 y1
  obtain⟨a0,a1⟩:=ha x x0 (by omega)
  obtain⟨b0,b1⟩:=ha y y0 (by omega)
  obtain⟨s0,s1⟩:=ZcK hm x0 x1 b0 b1
  have hmod:=Mod_ (a:=rd l x+rd u x*rd l y) (m:=m) (by omega) (by omega) (by omega) (by omega)
  rw[ZU.l1_eq,Zao.f_eq,Option.bind_some,w64 (x:=rd u x*rd l y) (by omega) (by omega),w64 (x:=rd l x+rd u x*rd l y) (by omega) (by omega),hmod,Option.bind_some]
  refine⟨fun h => ?_,fun h => ?_⟩ <;> ((with_reducible repeat (first|refine Zq (by first|assumption|omega|rfl|exact B_pos (by omega)) ?_|refine Zp (by first|assumption|omega|decide|exact B_not (by omega)) ?_|refine Zk (by first|assumption) ?_|dsimp only));first|done|(with_reducible rfl)|simp (disch:=omega) only[w64]|(show False;done))) (fun _=>by rw[ZU.l1_eq,Zao.f_eq,Option.bind_some];((with_reducible repeat (first|refine Zq (by first|assumption|omega|rfl|exact B_pos (by omega)) ?_|refine Zp (by first|assumption|omega|decide|exact B_not (by omega)) ?_|refine Zk (by first|assumption) ?_|dsimp only));first|done|(with_reducible rfl)|simp (disch:=omega) only[w64]|(show False;done)))
 refine⟨fun h => ?_,fun h => ?_⟩ <;> rw[ZU.l0_eq,Zao.f_eq,Option.bind_some] <;> (with_reducible repeat (first|refine Zq (by first|assumption|omega|rfl|exact B_pos (by omega)) ?_|refine Zp (by first|assumption|omega|decide|exact B_not (by omega)) ?_|refine Zk (by first|assumption) ?_|dsimp only))
 ·
  exact inner.1 h
 ·
  exact inner.2 h
end Go.Proofs.YthmcpmnhdbeahaaGreat.V
set_option maxHeartbeats 4000000
namespace Go.Proofs.YthmcpmnhdbeahaaGreat.V
open Go.RowKit Go.Proofs.YthmcpmnhdbeahaaGreat.D Go.Proofs.YthmcpmnhdbeahaaGreat.P
def Ll (W:Nat) (x y:List Int):Prop:=∃j:Nat,j < W∧(∀i:Nat,i < j→rd x (i:Int)=rd y (i:Int))∧rd x (j:Int) < rd y (j:Int)
theorem Ll.irrefl {W:Nat} {x:List Int}:¬ Ll W x x:=fun⟨j,_,_,h⟩=>by omega
theorem Ll.trans {W:Nat} {x y z:List Int} (h:Ll W x y) (k:Ll W y z):Ll W x z:=by
 obtain⟨i,i1,i2,i3⟩:=h
 obtain⟨j,j1,j2,j3⟩:=k
 rcases Nat.lt_trichotomy i j with q|q|q
 ·
  exact⟨i,i1,fun t ht=>(i2 t ht).trans (j2 t (by omega)),by rw[←j2 i q];exact i3⟩
 ·
  subst q;exact⟨i,i1,fun t ht=>(i2 t ht).trans (j2 t ht),by omega⟩
 ·
  exact⟨j,j1,fun t ht=>(i2 t (by omega)).trans (j2 t ht),by rw[i2 j q];exact j3⟩
theorem Ll.asymm {W:Nat} {x y:List Int} (h:Ll W x y):¬ Ll W y x:=fun k=>Ll.irrefl (h.trans k)
theorem Ll.tri (W:Nat) (x y:List Int):Ll W x y∨(∀i:Nat,i < W→rd x (i:Int)=rd y (i:Int))∨Ll W y x:=by
 have main:∀k,k≤W→Ll W x y∨(∀i:Nat,i < k→rd x (i:Int)=rd y (i:Int))∨Ll W y x:=by
  intro k
  induction k with
  | zero=>exact fun _ => .inr (.inl fun i hi=>by omega)
  | succ k ih =>
   intro hk
   rcases ih (by omega)with h|h|h
   ·
    exact .inl h
   ·
    rcases Int.lt_trichotomy (rd x (k:Int)) (rd y (k:Int))with q|q|q
    ·
     exact .inl ⟨k,by omega,h,q⟩
    ·
     refine .inr (.inl fun i hi => ?_)
     by_cases e:i=k
     ·
      rw[e];exact q
     ·
      exact h i (by omega)
    ·
     exact .inr (.inr ⟨k,by omega,fun i hi=>(h i hi).symm,q⟩)
   ·
    exact .inr (.inr h)
 exact main W (Nat.le_refl _)
theorem Zci {W:Nat} {x y:List Int} (hx:x.length=W) (hy:y.length=W) (h:∀i:Nat,i < W→rd x (i:Int)=rd y (i:Int)):x=y :=
 ZfN (by omega) fun i i0 i1=>by
  obtain⟨n,rfl⟩:=Int.eq_ofNat_of_zero_le i0
  exact h n (by omega)
theorem Ll.le_trans {W:Nat} {x y z:List Int} (hx:x.length=W) (hy:y.length=W) (hz:z.length=W) (h:¬ Ll W y x) (k:¬ Ll W z y):¬ Ll W z x:=by
 intro q
 rcases Ll.tri W x y with a|a|a
 ·
  rcases Ll.tri W y z with b|b|b
  ·
   exact Ll.asymm q (a.trans b)
  ·
   have:=Zci hy hz b;subst this;exact Ll.asymm q a
  ·
   exact k b
 ·
  have:=Zci hx hy a;subst this
  exact k q
 ·
  exact h a
theorem ZgG {x y:List Int} {W:Nat} (hx:x.length=W) (hy:y.length=W) (hW:W≤1000000):∃c:Int,Zy.f x y=some c∧(c < 0↔Ll W x y)∧(c=0↔x=y):=by
 rw[Zy.f_eq]
 have hc:∀a b:Int,ZaX.f a b=some (if a < b then -1 else if a > b then 1 else 0):=fun a b=>by
  have n1:ZaH.f a=some false:=by rw[ZaH.f_eq];simp
  have n2:ZaH.f b=some false:=by rw[ZaH.f_eq];simp
  rw[ZaX.f_eq,n1,n2]
  by_cases h:a < b
  ·
   simp[h]
  ·
   by_cases h2:a > b
   ·
    simp[h,h2]
   ·
    simp[h,h2]
 suffices H:∀d k:Nat,k+d=W→(∀i:Nat,i < k→rd x (i:Int)=rd y (i:Int))→∃c:Int,Zy.l0 x y x (x.length:Int) (k:Int)=some c∧(c < 0↔Ll W x y)∧(c=0↔x=y)from H W 0 (by omega) fun i hi=>by omega
 intro d
 induction d with
 | zero =>
  intro k hk he
  have exy:=Zci hx hy fun i hi=>he i (by omega)
  refine⟨0,?_,⟨fun h=>by omega,fun h=>by rw[exy]at h;exact absurd h Ll.irrefl⟩,⟨fun _=>exy,fun _=>rfl⟩⟩
  rw[Zy.l0_eq]
  ((with_reducible repeat (first|refine Zq (by first|assumption|omega|rfl|exact B_pos (by omega)) ?_|refine Zp (by first|assumption|omega|decide|exact B_not (by omega)) ?_|refine Zk (by first|assumption) ?_|dsimp only));first|done|(with_reducible rfl)|simp (disch:=omega) only[w64]|(show False;done))
 | succ d ih =>
  intro k hk he
  have hck:=hc (rd x (k:Int)) (rd y (k:Int))
  rcases Int.lt_trichotomy (rd x (k:Int)) (rd y (k:Int))with q|q|q
  ·
   rw[if_pos q]at hck
   refine⟨-1,?_,⟨fun _=>⟨k,by omega,he,q⟩,fun _=>by omega⟩,⟨fun h=>by omega,fun h=>by rw[h]at q;omega⟩⟩
   rw[Zy.l0_eq]
   ((with_reducible repeat (first|refine Zq (by first|assumption|omega|rfl|exact B_pos (by omega)) ?_|refine Zp (by first|assumption|omega|decide|exact B_not (by omega)) ?_|refine Zk (by first|assumption) ?_|dsimp only));first|done|(with_reducible rfl)|simp (disch:=omega) only[w64]|(show False;done))
  ·
   rw[if_neg (by omega),if_neg (by omega)]at hck
   obtain⟨c,c1,c2,c3⟩:=ih (k+1) (by omega) fun i hi=>by
    by_cases e:i=k
    ·
     rw[e];exact q
    ·
     exact he i (by omega)
   refine⟨c,?_,c2,c3⟩
   rw[Zy.l0_eq,wn (j:=k) (by omega)]
   (with_reducible repeat (first|refine Zq (by first|assumption|omega|rfl|exact B_pos (by omega)) ?_|refine Zp (by first|assumption|omega|decide|exact B_not (by omega)) ?_|refine Zk (by first|assumption) ?_|dsimp only))
   exact c1
  ·
   rw[if_neg (by omega),if_pos q]at hck
   refine⟨1,?_,⟨fun h=>by omega,fun h=>absurd (⟨k,by omega,fun i hi=>(he i hi).symm,q⟩:Ll W y x) h.asymm⟩,⟨fun h=>by omega,fun h=>by rw[h]at q;omega⟩⟩
   rw[Zy.l0_eq]
   ((with_reducible repeat (first|refine Zq (by first|assumption|omega|rfl|exact B_pos (by omega)) ?_|refine Zp (by first|assumption|omega|decide|exact B_not (by omega)) ?_|refine Zk (by first|assumption) ?_|dsimp only));first|done|(with_reducible rfl)|simp (disch:=omega) only[w64]|(show False;done))
theorem Zl3 (x y:List Int) (hx:x.length≤1000000):ZP.f x y=some (B (x=y)):=by
 rw[ZP.f_eq]
 by_cases h:(x.length:Int)=(y.length:Int)
 rotate_left
 ·
  rw[B_neg fun e=>h (by rw[e])]
  ((with_reducible repeat (first|refine Zq (by first|assumption|omega|rfl|exact B_pos (by omega)) ?_|refine Zp (by first|assumption|omega|decide|exact B_not (by omega)) ?_|refine Zk (by first|assumption) ?_|dsimp only));first|done|(with_reducible rfl)|simp (disch:=omega) only[w64]|(show False;done))
 (with_reducible repeat (first|refine Zq (by first|assumption|omega|rfl|exact B_pos (by omega)) ?_|refine Zp (by first|assumption|omega|decide|exact B_not (by omega)) ?_|refine Zk (by first|assumption) ?_|dsimp only))
 rw[Zcf (show x=y↔∀i:Int,0≤i→i < x.length→rd x i=rd y i from⟨fun e i _ _=>by rw[e],fun e=>ZfN (by omega) e⟩)]
 refine scanT x.length (fun i=>ZP.l0 x y (x.length:Int) i) (fun i=>rd x i=rd y i) (fun i i0 i1 _ => ?_) (fun _=>by(rw[ZP.l0_eq]);((with_reducible repeat (first|refine Zq (by first|assumption|omega|rfl|exact B_pos (by omega)) ?_|refine Zp (by first|assumption|omega|decide|exact B_not (by omega)) ?_|refine Zk (by first|assumption) ?_|dsimp only));first|done|(with_reducible rfl)|simp (disch:=omega) only[w64]|(show False;done)))
 refine⟨fun h => ?_,fun h => ?_⟩ <;> (rw[ZP.l0_eq]) <;> ((with_reducible repeat (first|refine Zq (by first|assumption|omega|rfl|exact B_pos (by omega)) ?_|refine Zp (by first|assumption|omega|decide|exact B_not (by omega)) ?_|refine Zk (by first|assumption) ?_|dsimp only));first|done|(with_reducible rfl)|simp (disch:=omega) only[w64]|(show False;done))
theorem ZgF {x y:List Int} {W:Nat} (hx:x.length=W) (hy:y.length=W) (hW:W≤1000000):Zah.f x y=some (B (Ll W x y)):=by
 rw[Zah.f_eq,if_pos (by omega)]
 suffices H:∀d k:Nat,k+d=W→(∀i:Nat,i < k→rd x (i:Int)=rd y (i:Int))→Zah.l0 x y (k:Int)=some (B (Ll W x y))from H W 0 (by omega) fun i hi=>by omega
 intro d
 induction d with
 | zero =>
  intro k hk he
  have exy:=Zci hx hy fun i hi=>he i (by omega)
  rw[B_neg (by rw[exy];exact Ll.irrefl),Zah.l0_eq]
  ((with_reducible repeat (first|refine Zq (by first|assumption|omega|rfl|exact B_pos (by omega)) ?_|refine Zp (by first|assumption|omega|decide|exact B_not (by omega)) ?_|refine Zk (by first|assumption) ?_|dsimp only));first|done|(with_reducible rfl)|simp (disch:=omega) only[w64]|(show False;done))
 | succ d ih =>
  intro k hk he
  by_cases q:rd x (k:Int)=rd y (k:Int)
  ·
   have:=ih (k+1) (by omega) fun i hi=>by
    by_cases e:i=k
    ·
     rw[e];exact q
    ·
     exact he i (by omega)
   rw[Zah.l0_eq,wn (j:=k) (by omega)]
   (with_reducible repeat (first|refine Zq (by first|assumption|omega|rfl|exact B_pos (by omega)) ?_|refine Zp (by first|assumption|omega|decide|exact B_not (by omega)) ?_|refine Zk (by first|assumption) ?_|dsimp only))
   exact this
  ·
   have e:B (Ll W x y)=decide (rd x (k:Int) < rd y (k:Int)):=by
    by_cases q2:rd x (k:Int) < rd y (k:Int)
    ·
     rw[B_pos ⟨k,by omega,he,q2⟩];simp[q2]
    ·
     rw[B_neg (Ll.asymm ⟨k,by omega,fun i hi=>(he i hi).symm,by omega⟩)];simp[q2]
   rw[e,Zah.l0_eq]
   ((with_reducible repeat (first|refine Zq (by first|assumption|omega|rfl|exact B_pos (by omega)) ?_|refine Zp (by first|assumption|omega|decide|exact B_not (by omega)) ?_|refine Zk (by first|assumption) ?_|dsimp only));first|done|(with_reducible rfl)|simp (disch:=omega) only[w64]|(show False;done))
end Go.Proofs.YthmcpmnhdbeahaaGreat.V
namespace Go.Proofs.YthmcpmnhdbeahaaGreat.V
open Go Go.RowKit Go.Proofs.YthmcpmnhdbeahaaGreat.D Go.Proofs.YthmcpmnhdbeahaaGreat.P
structure Ord (H:Value→Prop) (L:Value→Value→Prop) (C:Value→Value→Option Int):Prop where
 asy:∀x y,L x y→¬ L y x
 tr:∀x y z,H x→H y→H z→¬ L y x→¬ L z y→¬ L z x
 cmp:∀x y,H x→H y→∃c:Int,C x y=some c∧(c < 0↔L x y)
theorem ZkR (P:List Value) (x:Value) (Q:List Value):Ty.rd .raw (P++x :: Q) (P.length:Int)=x:=by
 show(P++x :: Q).getD ((P.length:Int)).toNat _=x
 simp[List.getD_eq_getElem?_getD]
theorem Zla {P:List Value} {n:Nat} (h:P.length=n+1):∃P' p,P=P' ++ [p]∧P'.length=n:=by
 have hne:P≠[]:=fun e=>by rw[e]at h;simp at h
 exact⟨P.dropLast,P.getLast hne,(List.dropLast_concat_getLast hne).symm,by rw[List.length_dropLast];omega⟩
theorem ZmE {H:Value→Prop} {L:Value→Value→Prop} {C:Value→Value→Option Int} (hC:Ord H L C) {N:Nat} (hN:N≤1000000) :
  ∀(n:Nat) (P Q R:List Value) (x:Value),P.length=n→(∀r∈P++x :: (Q++R),H r)→(P++Q).Pairwise (fun r s=>¬ L s r)→(∀q∈Q,L x q)→(P++x :: (Q++R)).length=N →
  ∃S,_root_.Go.Proofs.YthmcpmnhdbeahaaGreat.R.Zg.l1 0 (N:Int) C ((P.length+Q.length:Nat):Int) (n:Int) (P++x :: (Q++R))=_root_.Go.Proofs.YthmcpmnhdbeahaaGreat.R.Zg.l0 0 (N:Int) C ((P.length+Q.length+1:Nat):Int) (S++R)∧S.Pairwise (fun r s=>¬ L s r)∧S.Perm (P++x :: Q):=by
 intro n
 induction n with
 | zero =>
  intro P Q R x hP hr hs hq hN'
  obtain rfl:=List.eq_nil_of_length_eq_zero hP
  refine⟨x :: Q,?_,?_,List.Perm.refl _⟩
  ·
   simp only[List.nil_append,List.length_nil,Nat.zero_add]at hN' ⊢
   have:Q.length+1≤N:=by simp only[List.length_cons,List.length_append]at hN';omega
   rw[_root_.Go.Proofs.YthmcpmnhdbeahaaGreat.R.Zg.l1_eq,wn (j:=Q.length) (by omega)]
   (with_reducible repeat (first|refine Zq (by first|assumption|omega|rfl|exact B_pos (by omega)) ?_|refine Zp (by first|assumption|omega|decide|exact B_not (by omega)) ?_|refine Zk (by first|assumption) ?_|dsimp only))
   rfl
  ·
   rw[List.pairwise_cons]
   exact⟨fun q hq' => hC.asy _ _ (hq q hq'),by simpa using hs⟩
 | succ n ih =>
  intro P Q R x hP hr hs hq hN'
  obtain⟨P', p,rfl,hP'⟩:=Zla hP
  have lN:P'.length+1+1+Q.length+R.length=N:=by
   have:=hN'
   simp only[List.length_cons,List.length_append,List.length_nil]at this
   omega
  have hxl:H x:=hr x (by simp)
  have hpl:H p:=hr p (by simp)
  obtain⟨c,c1,c2⟩:=hC.cmp x p hxl hpl
  have e0:(P' ++ [p])++x :: (Q++R)=P' ++ p :: (x :: (Q++R)):=by simp
  have r1:Ty.rd .raw ((P' ++ [p])++x :: (Q++R)) ((n+1:Nat):Int)=x:=by rw[←hP];exact ZkR _ _ _
  have r0:Ty.rd .raw ((P' ++ [p])++x :: (Q++R)) (n:Int)=p:=by rw[e0,←hP'];exact ZkR _ _ _
  have w1:wrapI (((n+1:Nat):Int) - 1)=(n:Int):=by rw[w64 (by omega) (by omega)];omega
  have sw:(((P' ++ [p])++x :: (Q++R)).set (n+1) p).set n x=P' ++ x :: ((p :: Q)++R):=by
   rw[List.set_append,if_neg (by rw[List.length_append,List.length_singleton];omega),List.length_append,List.length_singleton,show n+1 - (P'.length+1)=0 by omega,List.set_cons_zero,show(P' ++ [p])++p :: (Q++R)=P' ++ p :: (p :: (Q++R))by simp,List.set_append,if_neg (by omega),show n - P'.length=0 by omega,List.set_cons_zero]
   rfl
  have sl:(((P' ++ [p])++x :: (Q++R)).set (n+1) p).length=N:=by rw[List.length_set];exact hN'
  have tn:(((n+1:Nat):Int)).toNat=n+1:=by omega
  by_cases hc:c < 0
  ·
   have hr2:∀r∈P' ++ x :: ((p :: Q)++R),H r:=fun r hr' => hr r (by simp only[List.mem_append,List.mem_cons,List.mem_singleton]at hr' ⊢;rcases hr' with h|h|(h|h)|h <;> simp[h])
   obtain⟨S,h1,h2,h3⟩:=ih P' (p :: Q) R x hP' hr2 (by rw[show P' ++ p :: Q=P' ++ [p]++Q by simp];exact hs) (fun q hq' => by
    rcases List.mem_cons.1 hq' with rfl|hq'
    ·
     exact c2.1 hc
    ·
     exact hq q hq') (by rw[←sw,List.length_set,List.length_set];exact hN')
   refine⟨S,?_,h2,h3.trans ?_⟩
   ·
    rw[show(P' ++ [p]).length+Q.length=P'.length+(p :: Q).length by simp only[List.length_append,List.length_cons,List.length_nil];omega,←h1,_root_.Go.Proofs.YthmcpmnhdbeahaaGreat.R.Zg.l1_eq,w1,tn,Int.toNat_natCast,r1,r0]
    (with_reducible repeat (first|refine Zq (by first|assumption|omega|rfl|exact B_pos (by omega)) ?_|refine Zp (by first|assumption|omega|decide|exact B_not (by omega)) ?_|refine Zk (by first|assumption) ?_|dsimp only))
    rw[sw]
   ·
    rw[show(P' ++ [p])++x :: Q=P' ++ p :: x :: Q by simp]
    exact List.Perm.append_left _ (List.Perm.swap ..)
  ·
   refine⟨(P' ++ [p])++x :: Q,?_,?_,List.Perm.refl _⟩
   ·
    rw[_root_.Go.Proofs.YthmcpmnhdbeahaaGreat.R.Zg.l1_eq,w1,r1,r0,wn (j:=(P' ++ [p]).length+Q.length) (by simp only[List.length_append,List.length_cons,List.length_nil];omega)]
    (with_reducible repeat (first|refine Zq (by first|assumption|omega|rfl|exact B_pos (by omega)) ?_|refine Zp (by first|assumption|omega|decide|exact B_not (by omega)) ?_|refine Zk (by first|assumption) ?_|dsimp only))
    rw[show((P' ++ [p])++x :: Q)++R=(P' ++ [p])++x :: (Q++R)by simp]
   ·
    have hnp:¬ L x p:=fun k=>hc (c2.2 k)
    rw[List.pairwise_append]at hs ⊢
    obtain⟨s1,s2,s3⟩:=hs
    refine⟨s1,List.pairwise_cons.2 ⟨fun q hq' => hC.asy _ _ (hq q hq'),s2⟩,fun r hr' s hs' => ?_⟩
    rcases List.mem_cons.1 hs' with rfl|hs'
    ·
     rcases List.mem_append.1 hr' with h|h
     ·
      rw[List.pairwise_append]at s1
      have:=s1.2.2 r h p (List.mem_singleton.2 rfl)
      exact hC.tr _ _ _ (hr r (by simp[h])) hpl hxl this hnp
     ·
      rw[List.mem_singleton.1 h];exact hnp
    ·
     exact s3 r hr' s hs'
theorem Zna {H:Value→Prop} {L:Value→Value→Prop} {C:Value→Value→Option Int} (hC:Ord H L C) {xs:List Value} (hN:xs.length≤1000000) (hr:∀r∈xs,H r) :
  ∃S,_root_.Go.Proofs.YthmcpmnhdbeahaaGreat.R.Zg.f xs 0 (xs.length:Int) C=some S∧S.Pairwise (fun r s=>¬ L s r)∧S.Perm xs:=by
 have main:∀(n:Nat) (S R:List Value),R.length=n→S.length+n=xs.length→0 < S.length→S.Pairwise (fun r s=>¬ L s r)→(∀r∈S++R,H r) →
   ∃S', _root_.Go.Proofs.YthmcpmnhdbeahaaGreat.R.Zg.l0 0 (xs.length:Int) C (S.length:Int) (S++R)=some S' ∧ S'.Pairwise (fun r s=>¬ L s r)∧S'.Perm (S++R):=by
  intro n
  induction n with
  | zero =>
   intro S R hR hl _ hs hr
   obtain rfl:=List.eq_nil_of_length_eq_zero hR
   rw[List.append_nil]
   refine⟨S,?_,hs,List.Perm.refl _⟩
   rw[_root_.Go.Proofs.YthmcpmnhdbeahaaGreat.R.Zg.l0_eq]
   ((with_reducible repeat (first|refine Zq (by first|assumption|omega|rfl|exact B_pos (by omega)) ?_|refine Zp (by first|assumption|omega|decide|exact B_not (by omega)) ?_|refine Zk (by first|assumption) ?_|dsimp only));first|done|(with_reducible rfl)|simp (disch:=omega) only[w64]|(show False;done))
  | succ n ih =>
   intro S R hR hl h0 hs hr
   cases R with
   | nil=>simp at hR
   | cons x R =>
    obtain⟨S1,h1,h2,h3⟩:=ZmE hC (N:=xs.length) hN S.length S [] R x rfl (by simpa using hr) (by simpa using hs) (fun q hq=>by cases hq) (by simp only[List.nil_append,List.length_append,List.length_cons]at hR ⊢;omega)
    have l1:S1.length=S.length+1:=by rw[h3.length_eq];simp
    obtain⟨S', k1,k2,k3⟩:=ih S1 R (by simpa using hR) (by omega) (by omega) h2 (fun r hr' => by
     rcases List.mem_append.1 hr' with h|h
     ·
      exact hr r (by have:=h3.mem_iff.1 h;simp at this ⊢;rcases this with h|h <;> simp[h])
     ·
      exact hr r (by simp[h]))
    refine⟨S', ?_,k2,k3.trans ?_⟩
    ·
     rw[_root_.Go.Proofs.YthmcpmnhdbeahaaGreat.R.Zg.l0_eq]
     simp only[List.nil_append,List.length_nil,Nat.add_zero]at h1
     have:S.length < xs.length:=by omega
     (with_reducible repeat (first|refine Zq (by first|assumption|omega|rfl|exact B_pos (by omega)) ?_|refine Zp (by first|assumption|omega|decide|exact B_not (by omega)) ?_|refine Zk (by first|assumption) ?_|dsimp only))
     rw[h1,←l1]
     exact k1
    ·
     have:=h3.append_right R
     simpa using this
 rw[_root_.Go.Proofs.YthmcpmnhdbeahaaGreat.R.Zg.f_eq,show wrapI (0+1)=1 from w64 (by omega) (by omega)]
 cases xs with
 | nil =>
  refine⟨[],?_,List.Pairwise.nil,List.Perm.refl _⟩
  rw[_root_.Go.Proofs.YthmcpmnhdbeahaaGreat.R.Zg.l0_eq]
  ((with_reducible repeat (first|refine Zq (by first|assumption|omega|rfl|exact B_pos (by omega)) ?_|refine Zp (by first|assumption|omega|decide|exact B_not (by omega)) ?_|refine Zk (by first|assumption) ?_|dsimp only));first|done|(with_reducible rfl)|simp (disch:=omega) only[w64]|(show False;done))
 | cons x xs =>
  have:=main xs.length [x] xs rfl (by simp;omega) (by simp) (List.pairwise_singleton _ _) (by simpa using hr)
  simpa using this
theorem sort12 {H:Value→Prop} {L:Value→Value→Prop} {C:Value→Value→Option Int} (hC:Ord H L C) {xs:List Value} (hN:xs.length≤12) (hr:∀r∈xs,H r) :
  ∃S,_root_.Go.Proofs.YthmcpmnhdbeahaaGreat.R.ZC.f xs C=some S∧S.Pairwise (fun r s=>¬ L s r)∧S.Perm xs:=by
 obtain⟨S,h1,h2,h3⟩:=Zna hC (by omega) hr
 refine⟨S,?_,h2,h3⟩
 have hb:∃t,_root_.Go.Proofs.YthmcpmnhdbeahaaGreat.R.bits_Len.f (wr .u64 (xs.length:Int))=some t:=by
  have e:wr .u64 (xs.length:Int)=(xs.length:Int):=by
   show hid _=_
   rw[ZcE]
   simp[IntKind.wrap,IntKind.bits,IntKind.signed]
   omega
  rw[e]
  unfold _root_.Go.Proofs.YthmcpmnhdbeahaaGreat.R.bits_Len.f
  rw[if_pos (by omega)]
  exact⟨_,rfl⟩
 obtain⟨t,ht⟩:=hb
 have w:wrapI ((xs.length:Int) - 0)=(xs.length:Int):=by rw[w64 (by omega) (by omega)];omega
 have hCC:(fun z0 z1=>(C z0 z1).map fun z=>z)=C:=by funext a b;cases C a b <;> rfl
 rw[_root_.Go.Proofs.YthmcpmnhdbeahaaGreat.R.ZC.f_eq,ht,Option.bind_some,hCC,ZfR,_root_.Go.Proofs.YthmcpmnhdbeahaaGreat.R.Za.f_eq,_root_.Go.Proofs.YthmcpmnhdbeahaaGreat.R.Za.l0_eq,w,hCC,if_pos (by omega),h1]
 rfl
end Go.Proofs.YthmcpmnhdbeahaaGreat.V
namespace Go.Proofs.YthmcpmnhdbeahaaGreat.V
open Go Go.RowKit Go.Proofs.YthmcpmnhdbeahaaGreat.D Go.Proofs.YthmcpmnhdbeahaaGreat.P
theorem rdR {xs:List Value} (i:Nat):Ty.rd .raw xs (i:Int)=hd xs i:=by
 show xs.getD ((i:Int)).toNat _=_
 rw[Int.toNat_natCast]
 rfl
noncomputable def cix (E:Nat→Prop):Nat→List Nat
 | 0=>[]
 | n+1=>ite_ (0 < n∧E n) (cix E n) (cix E n++[n])
theorem Zek {E:Nat→Prop} {n:Nat} (h0:0 < n) (h:E n):cix E (n+1)=cix E n:=by
 conv=>lhs;unfold cix
 rw[ZbU ⟨h0,h⟩]
theorem ZdK {E:Nat→Prop} {n:Nat} (h:¬ (0 < n∧E n)):cix E (n+1)=cix E n++[n]:=by
 conv=>lhs;unfold cix
 rw[ZbW h]
theorem Zj1 (E:Nat→Prop):∀n,(cix E n).length≤n∧(0 < n→0 < (cix E n).length):=by
 intro n
 induction n with
 | zero=>simp[cix]
 | succ n ih =>
  by_cases h:0 < n∧E n
  ·
   rw[Zek h.1 h.2];exact⟨by omega,fun _=>ih.2 h.1⟩
  ·
   rw[ZdK h,List.length_append,List.length_singleton];exact⟨by omega,fun _=>by omega⟩
theorem Zl8 (E:Nat→Prop):∀n,∀i∈cix E n,i < n:=by
 intro n
 induction n with
 | zero=>simp[cix]
 | succ n ih =>
  intro i hi
  by_cases h:0 < n∧E n
  ·
   rw[Zek h.1 h.2]at hi;have:=ih i hi;omega
  ·
   rw[ZdK h]at hi
   rcases List.mem_append.1 hi with hi|hi
   ·
    have:=ih i hi;omega
   ·
    rw[List.mem_singleton.1 hi];omega
theorem Zj3 (E:Nat→Prop):∀n,(cix E n).Nodup:=by
 intro n
 induction n with
 | zero=>simp[cix]
 | succ n ih =>
  by_cases h:0 < n∧E n
  ·
   rw[Zek h.1 h.2];exact ih
  ·
   rw[ZdK h,List.nodup_append]
   refine⟨ih,by simp,fun a ha b hb => ?_⟩
   rw[List.mem_singleton.1 hb]
   have:=Zl8 E n a ha
   omega
theorem Zkl {xs:List Value} {m:Nat} (h:m < xs.length):xs.take (m+1)=xs.take m++[hd xs m]:=by
 rw[List.take_add_one,Zfl h]
 rfl
theorem ZhG {xs:List Value} {i j:Nat} {v:Value} (h:i≠j):hd (xs.set i v) j=hd xs j:=by
 unfold hd
 rw[List.getD_eq_getElem?_getD,List.getElem?_set_ne h,←List.getD_eq_getElem?_getD]
theorem Zln {Q:Value→Value→Option Bool} {xs:List Value} {E:Nat→Prop} (hQ:∀i,0 < i→i < xs.length→Q (hd xs i) (hd xs (i - 1))=some (B (E i))) (hN:xs.length≤1000000):_root_.Go.Proofs.YthmcpmnhdbeahaaGreat.R.Zl.f xs Q=some ((cix E xs.length).map (hd xs)):=by
 have inner:∀(n b k2:Nat) (r:List Value),b+k2+n=xs.length→0 < b→0 < k2→r.length=xs.length→(cix E (b+k2)).length≤b+k2 - 1→r.take (cix E (b+k2)).length=(cix E (b+k2)).map (hd xs)→(∀i:Nat,b+k2 - 1≤i→i < xs.length→hd r i=hd xs i) →
   _root_.Go.Proofs.YthmcpmnhdbeahaaGreat.R.Zl.l1 Q (((cix E (b+k2)).length:Nat):Int) b (k2:Int) r=some ((cix E xs.length).map (hd xs)):=by
  intro n
  induction n with
  | zero =>
   intro b k2 r hb b0 k0 hr hc ht hs
   have e:b+k2=xs.length:=by omega
   have ek:((r.length - b:Nat):Int)=(k2:Int):=by omega
   have tl:(r.take (cix E (b+k2)).length++List.replicate (r.length - (cix E (b+k2)).length) (Value.slice none 0 0)).length=r.length:=by
    rw[List.length_append,List.length_take,List.length_replicate];omega
   rw[_root_.Go.Proofs.YthmcpmnhdbeahaaGreat.R.Zl.l1_eq,Int.toNat_natCast]
   (with_reducible repeat (first|refine Zq (by first|assumption|omega|rfl|exact B_pos (by omega)) ?_|refine Zp (by first|assumption|omega|decide|exact B_not (by omega)) ?_|refine Zk (by first|assumption) ?_|dsimp only))
   rw[List.take_append_of_le_length (by rw[List.length_take];omega),List.take_take,Nat.min_self,ht,e]
  | succ n ih =>
   intro b k2 r hb b0 k0 hr hc ht hs
   have w1:wrapI ((k2:Int) - 1)=((k2 - 1:Nat):Int):=by rw[w64 (by omega) (by omega)];omega
   have e1:(b:Int)+(k2:Int)=((b+k2:Nat):Int):=by omega
   have e2:(b:Int)+((k2 - 1:Nat):Int)=((b+k2 - 1:Nat):Int):=by omega
   have r1:Ty.rd .raw r ((b+k2:Nat):Int)=hd xs (b+k2):=(rdR _).trans (hs (b+k2) (by omega) (by omega))
   have r2:Ty.rd .raw r ((b+k2 - 1:Nat):Int)=hd xs (b+k2 - 1):=(rdR _).trans (hs (b+k2 - 1) (by omega) (by omega))
   have hq:=hQ (b+k2) (by omega) (by omega)
   have cl:=Zj1 E (b+k2)
   have kl:((r.length - b:Nat):Int)=((xs.length - b:Nat):Int):=by rw[hr]
   by_cases h:E (b+k2)
   ·
    rw[B_pos h]at hq
    have ec:cix E (b+(k2+1))=cix E (b+k2):=Zek (n:=b+k2) (by omega) h
    have:=ih b (k2+1) r (by omega) b0 (by omega) hr (by rw[ec];omega) (by rw[ec];exact ht) (fun i hi=>hs i (by omega))
    rw[ec]at this
    rw[_root_.Go.Proofs.YthmcpmnhdbeahaaGreat.R.Zl.l1_eq,w1,wn (j:=k2) (by omega),e1,e2,r1,r2]
    (with_reducible repeat (first|refine Zq (by first|assumption|omega|rfl|exact B_pos (by omega)) ?_|refine Zp (by first|assumption|omega|decide|exact B_not (by omega)) ?_|refine Zk (by first|assumption) ?_|dsimp only))
    exact this
   ·
    rw[B_neg h]at hq
    have ec:cix E (b+(k2+1))=cix E (b+k2)++[b+k2]:=ZdK (n:=b+k2) fun q=>h q.2
    have el:(cix E (b+(k2+1))).length=(cix E (b+k2)).length+1:=by rw[ec,List.length_append,List.length_singleton]
    have:=ih b (k2+1) (r.set (cix E (b+k2)).length (hd xs (b+k2))) (by omega) b0 (by omega) (by rw[List.length_set];exact hr) (by omega) (by
     rw[el,List.take_succ_eq_append_getElem (by rw[List.length_set];omega),List.take_set_of_le (Nat.le_refl _),ht,ec]
     simp) (fun i hi hi2=>by rw[ZhG (by omega)];exact hs i (by omega) hi2)
    rw[el]at this
    rw[_root_.Go.Proofs.YthmcpmnhdbeahaaGreat.R.Zl.l1_eq,w1,wn (j:=k2) (by omega),wn (j:=(cix E (b+k2)).length) (by omega),e1,e2,r1,r2,Int.toNat_natCast]
    (with_reducible repeat (first|refine Zq (by first|assumption|omega|rfl|exact B_pos (by omega)) ?_|refine Zp (by first|assumption|omega|decide|exact B_not (by omega)) ?_|refine Zk (by first|assumption) ?_|dsimp only))
    exact this
 have outer:∀(n k:Nat),k+n=xs.length→0 < k→cix E k=List.range k→_root_.Go.Proofs.YthmcpmnhdbeahaaGreat.R.Zl.l0 Q (k:Int) xs=some ((cix E xs.length).map (hd xs)):=by
  have hall:∀k,k≤xs.length→(List.range k).map (hd xs)=xs.take k:=by
   intro k
   induction k with
   | zero=>intro _;simp
   | succ k ih=>intro hk;rw[List.range_succ,List.map_append,ih (by omega),Zkl (by omega)];rfl
  intro n
  induction n with
  | zero =>
   intro k hk k0 hc
   have hx:(cix E xs.length).map (hd xs)=xs:=by
    have:k=xs.length:=by omega
    subst this
    rw[hc,hall _ (Nat.le_refl _),List.take_length]
   rw[hx,_root_.Go.Proofs.YthmcpmnhdbeahaaGreat.R.Zl.l0_eq]
   ((with_reducible repeat (first|refine Zq (by first|assumption|omega|rfl|exact B_pos (by omega)) ?_|refine Zp (by first|assumption|omega|decide|exact B_not (by omega)) ?_|refine Zk (by first|assumption) ?_|dsimp only));first|done|(with_reducible rfl)|simp (disch:=omega) only[w64]|(show False;done))
  | succ n ih =>
   intro k hk k0 hc
   have w1:wrapI ((k:Int) - 1)=((k - 1:Nat):Int):=by rw[w64 (by omega) (by omega)];omega
   have hq:=hQ k k0 (by omega)
   have r1:Ty.rd .raw xs (k:Int)=hd xs k:=rdR _
   have r2:Ty.rd .raw xs ((k - 1:Nat):Int)=hd xs (k - 1):=rdR _
   by_cases h:E k
   ·
    rw[B_pos h]at hq
    have ec:cix E (k+1)=cix E k:=Zek k0 h
    have hlk:(cix E (k+1)).length=k:=by rw[ec,hc,List.length_range]
    have:=inner n k 1 xs (by omega) k0 (by omega) rfl (by omega) (by rw[hlk,ec,hc,hall k (by omega)]) (fun i _ _=>rfl)
    rw[hlk]at this
    rw[_root_.Go.Proofs.YthmcpmnhdbeahaaGreat.R.Zl.l0_eq,w1,r1,r2]
    (with_reducible repeat (first|refine Zq (by first|assumption|omega|rfl|exact B_pos (by omega)) ?_|refine Zp (by first|assumption|omega|decide|exact B_not (by omega)) ?_|refine Zk (by first|assumption) ?_|dsimp only))
    exact this
   ·
    rw[B_neg h]at hq
    have ec:cix E (k+1)=cix E k++[k]:=ZdK fun q=>h q.2
    have:=ih (k+1) (by omega) (by omega) (by rw[ec,hc,List.range_succ])
    rw[_root_.Go.Proofs.YthmcpmnhdbeahaaGreat.R.Zl.l0_eq,w1,wn (j:=k) (by omega),r1,r2]
    (with_reducible repeat (first|refine Zq (by first|assumption|omega|rfl|exact B_pos (by omega)) ?_|refine Zp (by first|assumption|omega|decide|exact B_not (by omega)) ?_|refine Zk (by first|assumption) ?_|dsimp only))
    exact this
 have c1:cix E 1=[0]:=ZdK (n:=0) fun q=>absurd q.1 (Nat.lt_irrefl 0)
 rw[_root_.Go.Proofs.YthmcpmnhdbeahaaGreat.R.Zl.f_eq]
 by_cases h2:(xs.length:Int) < 2
 ·
  rw[if_pos h2]
  congr 1
  match xs,h2 with
  | [],_=>rfl
  | [x],_ =>
   show [x]=(cix E 1).map (hd [x])
   rw[c1]
   rfl
  | x :: y :: xs,h2=>simp only[List.length_cons]at h2;omega
 ·
  rw[if_neg h2]
  exact outer (xs.length - 1) 1 (by omega) (by omega) c1
theorem ZlI {hs S:List Value} (h:S.Perm hs):∃sel:List Nat,sel.Perm (List.range hs.length)∧S=sel.map (hd hs):=by
 have all:hs=(List.range hs.length).map (hd hs):=by
  apply List.ext_getElem?
  intro i
  by_cases hi:i < hs.length
  ·
   rw[List.getElem?_map,List.getElem?_range hi,Zfl hi];rfl
  ·
   rw[List.getElem?_eq_none (by omega),List.getElem?_eq_none (by simp;omega)]
 have main:∀{A B:List Value},A.Perm B→∀idx:List Nat,B=idx.map (hd hs)→∃sel:List Nat,sel.Perm idx∧A=sel.map (hd hs):=by
  intro A B hp
  induction hp with
  | nil=>intro idx hi;exact⟨idx,List.Perm.refl _,hi⟩
  | cons x hp ih =>
   intro idx hi
   cases idx with
   | nil=>cases hi
   | cons i idx =>
    rw[List.map_cons]at hi
    injection hi with h1 h2
    obtain⟨sel,s1,s2⟩:=ih idx h2
    exact⟨i :: sel,s1.cons i,by rw[List.map_cons,h1,s2]⟩
  | swap x y l =>
   intro idx hi
   match idx,hi with
   | i :: j :: idx,hi =>
    rw[List.map_cons,List.map_cons]at hi
    injection hi with h1 h2
    injection h2 with h2 h3
    exact⟨j :: i :: idx,List.Perm.swap ..,by rw[List.map_cons,List.map_cons,h1,h2,h3]⟩
  | trans _ _ ih1 ih2 =>
   intro idx hi
   obtain⟨s,s1,s2⟩:=ih2 idx hi
   obtain⟨s', t1,t2⟩:=ih1 s s2
   exact⟨s', t1.trans s1,t2⟩
 exact main h _ all
theorem Zge {W:Nat}:∀{A B:List (List Int)},A.Perm B→(∀r∈A,r.length=W)→A.Pairwise (fun r s=>¬ Ll W s r)→B.Pairwise (fun r s=>¬ Ll W s r)→A=B
 | [],B,hp,_,_,_=>(List.nil_perm.1 hp).symm
 | a :: A,[],hp,_,_,_=>by have:=hp.length_eq;simp at this
 | a :: A,b :: B,hp,hW,hA,hB=>by
  rw[List.pairwise_cons]at hA hB
  have ha:a∈b :: B:=hp.mem_iff.1 List.mem_cons_self
  have hb:b∈a :: A:=hp.mem_iff.2 List.mem_cons_self
  have hlb:b.length=W:=hW b hb
  have hla:a.length=W:=hW a List.mem_cons_self
  have e:a=b:=by
   rcases Ll.tri W a b with h|h|h
   ·
    rcases List.mem_cons.1 ha with q|q
    ·
     exact q
    ·
     exact absurd h (hB.1 a q)
   ·
    exact Zci hla hlb h
   ·
    rcases List.mem_cons.1 hb with q|q
    ·
     exact q.symm
    ·
     exact absurd h (hA.1 b q)
  subst e
  rw[Zge (List.Perm.cons_inv hp) (fun r hr=>hW r (List.mem_cons_of_mem _ hr)) hA.2 hB.2]
def Lv (xs:List (List Int)) (hs:List Value) (W:Nat) (u v:Value):Prop:=∃i j,i < xs.length∧j < xs.length∧u=hd hs i∧v=hd hs j∧Ll W (ct xs i) (ct xs j)
theorem Znf {W:Nat} {xs:List (List Int)} (hr:∀r∈xs,r.length=W) {C:List Int→List Int→Option Int} (hC:∀x y:List Int,x.length=W→y.length=W→∃c:Int,C x y=some c∧(c < 0↔Ll W x y)) {hs:List Value} {c' : Value→Value→Option Int}
  (hc:∀i j,i < xs.length→j < xs.length→c' (hd hs i) (hd hs j)=C (ct xs i) (ct xs j)):Ord (fun v=>∃i,i < xs.length∧v=hd hs i) (Lv xs hs W) c' := by
 have hW:∀i,i < xs.length→(ct xs i).length=W:=fun i hi=>hr _ (List.mem_of_getElem? (Zdx hi))
 have key:∀i j,i < xs.length→j < xs.length→(Lv xs hs W (hd hs i) (hd hs j)↔Ll W (ct xs i) (ct xs j)):=fun i j hi hj=>by
  refine⟨fun⟨i', j', hi', hj', e1,e2,h⟩ => ?_,fun h=>⟨i,j,hi,hj,rfl,rfl,h⟩⟩
  obtain⟨c,c1,c2⟩:=hC _ _ (hW i hi) (hW j hj)
  obtain⟨d,d1,d2⟩:=hC _ _ (hW i' hi') (hW j' hj')
  have:=hc i j hi hj
  rw[e1,e2,hc i' j' hi' hj', d1,c1]at this
  cases this
  exact c2.1 (d2.2 h)
 refine⟨?_,?_,?_⟩
 ·
  rintro x y ⟨i,j,hi,hj,rfl,rfl,h⟩ k
  exact h.asymm ((key j i hj hi).1 k)
 ·
  rintro x y z ⟨i,hi,rfl⟩ ⟨j,hj,rfl⟩ ⟨k,hk,rfl⟩ h1 h2
  rw[key j i hj hi]at h1
  rw[key k j hk hj]at h2
  rw[key k i hk hi]
  exact Ll.le_trans (hW i hi) (hW j hj) (hW k hk) h1 h2
 ·
  rintro x y ⟨i,hi,rfl⟩ ⟨j,hj,rfl⟩
  obtain⟨c,c1,c2⟩:=hC _ _ (hW i hi) (hW j hj)
  exact⟨c,(hc i j hi hj).trans c1,c2.trans (key i j hi hj).symm⟩
theorem Zh6 {f:List Value→(Value→Value→Option Int)→Option (List Value)} {W:Nat} {xs:List (List Int)} (hr:∀r∈xs,r.length=W) {C:List Int→List Int→Option Int} (hC:∀x y:List Int,x.length=W→y.length=W→∃c:Int,C x y=some c∧(c < 0↔Ll W x y))
  (hf:∀(H:Value→Prop) (L:Value→Value→Prop) (c' : Value→Value→Option Int) (hs:List Value),Ord H L c' → hs.length=xs.length→(∀r∈hs,H r)→∃S,f hs c' = some S∧S.Pairwise (fun r s=>¬ L s r)∧S.Perm hs) :
  ∃ys,G2 f xs C=some ys∧ys.Pairwise (fun r s=>¬ Ll W s r)∧ys.Perm xs:=by
 have one:∀(hs:List Value) (c' : Value→Value→Option Int),hs.length=xs.length→(∀i j,i < xs.length→j < xs.length→c' (hd hs i) (hd hs j)=C (ct xs i) (ct xs j))→∃sel:List Nat,f hs c' = some (sel.map (hd hs))∧sel.Perm (List.range xs.length)∧(sel.map (ct xs)).Pairwise (fun r s=>¬ Ll W s r):=by
  intro hs c' hl hc
  have ho:=Znf hr hC hc
  obtain⟨S,h1,h2,h3⟩:=hf _ _ c' hs ho hl fun v hv=>by
   obtain⟨i,hi,rfl⟩:=List.getElem_of_mem hv
   exact⟨i,by omega,Option.some.inj ((List.getElem?_eq_getElem hi).symm.trans (Zfl hi))⟩
  obtain⟨sel,s1,rfl⟩:=ZlI h3
  rw[hl]at s1
  refine⟨sel,h1,s1,?_⟩
  rw[List.pairwise_map]at h2 ⊢
  refine h2.imp_of_mem fun {a b} ha hb h k=>h ?_
  have la:=List.mem_range.1 (s1.mem_iff.1 ha)
  have lb:=List.mem_range.1 (s1.mem_iff.1 hb)
  exact⟨b,a,lb,la,rfl,rfl,k⟩
 have hall:(List.range xs.length).map (ct xs)=xs:=by
  apply List.ext_getElem?
  intro i
  by_cases hi:i < xs.length
  ·
   rw[List.getElem?_map,List.getElem?_range hi,Zdx hi];rfl
  ·
   rw[List.getElem?_eq_none (by simp;omega),List.getElem?_eq_none (by omega)]
 have perm:∀sel:List Nat,sel.Perm (List.range xs.length)→(sel.map (ct xs)).Perm xs:=fun sel h=>by
  have:=h.map (ct xs)
  rwa[hall]at this
 have hlab:(labels xs.length).length=xs.length:=by simp[labels]
 obtain⟨s0,a1,a2,a3⟩:=one (labels xs.length) (lab2 xs C) hlab fun i j hi hj=>by
  rw[Zdc hi,Zdc hj]
  show C (ct xs ((i:Int)).toNat) (ct xs ((j:Int)).toNat)=_
  rw[Int.toNat_natCast,Int.toNat_natCast]
 refine⟨s0.map (ct xs),G2_eq fun hs c' hl hc => ?_,a3,perm s0 a2⟩
 obtain⟨s1,b1,b2,b3⟩:=one hs c' hl hc
 have e:s1.map (ct xs)=s0.map (ct xs):=Zge ((perm s1 b2).trans (perm s0 a2).symm) (fun r hr' => hr r ((perm s1 b2).mem_iff.1 hr')) b3 a3
 exact⟨_,b1,s1,(List.Perm.nodup_iff b2).2 List.nodup_range,fun i hi=>List.mem_range.1 (b2.mem_iff.1 hi),rfl,e.symm⟩
theorem Zhw {xs:List (List Int)} (hN:xs.length≤1000000) {Q:List Int→List Int→Option Bool} (hQ:∀x∈xs,∀y∈xs,Q x y=some (B (x=y))) :
  G2 _root_.Go.Proofs.YthmcpmnhdbeahaaGreat.R.Zl.f xs Q=some ((cix (fun n=>ct xs n=ct xs (n - 1)) xs.length).map (ct xs)):=by
 refine G2_eq fun hs c' hl hc => ?_
 have:=Zln (Q:=c') (xs:=hs) (E:=fun n=>ct xs n=ct xs (n - 1)) (fun i i0 i1=>by
  rw[hc i (i - 1) (by omega) (by omega)]
  exact hQ _ (List.mem_of_getElem? (Zdx (by omega))) _ (List.mem_of_getElem? (Zdx (by omega)))) (by omega)
 rw[hl]at this
 exact⟨_,this,cix _ xs.length,Zj3 _ _,Zl8 _ _,rfl,rfl⟩
theorem Zj2 {xs:List (List Int)} (r:List Int):∀n,n≤xs.length→(r∈(cix (fun n=>ct xs n=ct xs (n - 1)) n).map (ct xs)↔∃i,i < n∧r=ct xs i):=by
 intro n
 induction n with
 | zero=>intro _;simp[cix]
 | succ n ih =>
  intro hn
  by_cases h:0 < n∧ct xs n=ct xs (n - 1)
  ·
   rw[Zek h.1 h.2,ih (by omega)]
   constructor
   ·
    rintro⟨i,hi,rfl⟩;exact⟨i,by omega,rfl⟩
   ·
    rintro⟨i,hi,rfl⟩
    by_cases e:i=n
    ·
     subst e;exact⟨i - 1,by omega,h.2⟩
    ·
     exact⟨i,by omega,rfl⟩
  ·
   rw[ZdK h,List.map_append,List.mem_append,ih (by omega)]
   constructor
   ·
    rintro(⟨i,hi,rfl⟩|h)
    ·
     exact⟨i,by omega,rfl⟩
    ·
     simp at h;exact⟨n,by omega,h⟩
   ·
    rintro⟨i,hi,rfl⟩
    by_cases e:i=n
    ·
     subst e;exact .inr (by simp)
    ·
     exact .inl ⟨i,by omega,rfl⟩
theorem Zjq {W:Nat} {xs:List (List Int)} (hr:∀r∈xs,r.length=W) (hs:xs.Pairwise (fun r s=>¬ Ll W s r)):∀n,n≤xs.length→((cix (fun n=>ct xs n=ct xs (n - 1)) n).map (ct xs)).Pairwise (fun r s=>Ll W r s):=by
 have hW:∀i,i < xs.length→(ct xs i).length=W:=fun i hi=>hr _ (List.mem_of_getElem? (Zdx hi))
 have hlt:∀i j,i < j→j < xs.length→¬ Ll W (ct xs j) (ct xs i):=fun i j hij hj=>by
  have e1:xs[i]'(by omega)=ct xs i:=Option.some.inj ((List.getElem?_eq_getElem (by omega)).symm.trans (Zdx (by omega)))
  have e2:xs[j]=ct xs j:=Option.some.inj ((List.getElem?_eq_getElem hj).symm.trans (Zdx hj))
  have:=List.pairwise_iff_getElem.1 hs i j (by omega) hj hij
  rwa[e1,e2]at this
 intro n
 induction n with
 | zero=>intro _;simp[cix]
 | succ n ih =>
  intro hn
  by_cases h:0 < n∧ct xs n=ct xs (n - 1)
  ·
   rw[Zek h.1 h.2];exact ih (by omega)
  ·
   rw[ZdK h,List.map_append,List.pairwise_append]
   refine⟨ih (by omega),by simp,fun r hr' s hs' => ?_⟩
   simp at hs'
   subst hs'
   obtain⟨i,hi,rfl⟩:=(Zj2 r n (by omega)).1 hr'
   rcases Ll.tri W (ct xs i) (ct xs n)with q|q|q
   ·
    exact q
   ·
    have e:=Zci (hW i (by omega)) (hW n (by omega)) q
    by_cases hin:i=n - 1
    ·
     exact absurd ⟨by omega,by rw[←hin];exact e.symm⟩ h
    ·
     have h1:=hlt i (n - 1) (by omega) (by omega)
     have h2:=hlt (n - 1) n (by omega) (by omega)
     rw[e]at h1
     rcases Ll.tri W (ct xs (n - 1)) (ct xs n)with q|q|q
     ·
      exact absurd q h1
     ·
      exact absurd ⟨by omega,(Zci (hW (n - 1) (by omega)) (hW n (by omega)) q).symm⟩ h
     ·
      exact absurd q h2
   ·
    exact absurd q (hlt i n hi (by omega))
theorem Zet {W:Nat}:∀{A B:List (List Int)},(∀r,r∈A↔r∈B)→A.Pairwise (fun r s=>Ll W r s)→B.Pairwise (fun r s=>Ll W r s)→A=B
 | [],[],_,_,_=>rfl
 | [],b :: B,h,_,_=>by have:=(h b).2 List.mem_cons_self;cases this
 | a :: A,[],h,_,_=>by have:=(h a).1 List.mem_cons_self;cases this
 | a :: A,b :: B,h,hA,hB=>by
  rw[List.pairwise_cons]at hA hB
  have e:a=b:=by
   rcases List.mem_cons.1 ((h a).1 List.mem_cons_self)with q|q
   ·
    exact q
   ·
    rcases List.mem_cons.1 ((h b).2 List.mem_cons_self)with q2|q2
    ·
     exact q2.symm
    ·
     exact absurd (hB.1 a q) (hA.1 b q2).asymm
  subst e
  rw[Zet (W:=W) (fun r => ?_) hA.2 hB.2]
  refine⟨fun hr => ?_,fun hr => ?_⟩
  ·
   rcases List.mem_cons.1 ((h r).1 (List.mem_cons_of_mem _ hr))with q|q
   ·
    subst q;exact absurd (hA.1 _ hr) Ll.irrefl
   ·
    exact q
  ·
   rcases List.mem_cons.1 ((h r).2 (List.mem_cons_of_mem _ hr))with q|q
   ·
    subst q;exact absurd (hB.1 _ hr) Ll.irrefl
   ·
    exact q
end Go.Proofs.YthmcpmnhdbeahaaGreat.V
namespace Go.Proofs.YthmcpmnhdbeahaaGreat.V
open Go Go.RowKit Go.Proofs.YthmcpmnhdbeahaaGreat.D Go.Proofs.YthmcpmnhdbeahaaGreat.P
open Go.Sort (swp insInner insOuter insertionSort siftDown heapBuild heapPop heapSort scanUp scanDown partLoop partition partEqLoop partitionEqual scanSorted shiftDown shiftUp partialIns partialInsertionSort reverseLoop reverseRange SWO PermIn SortedIn)
noncomputable instance:Inhabited Value:=⟨Value.slice none 0 0⟩
variable {H:Value→Prop} {lt:Value→Value→Bool} {C:Value→Value→Option Int}
structure Cm (H:Value→Prop) (lt:Value→Value→Bool) (C:Value→Value→Option Int):Prop where
 swo:SWO lt
 cmp:∀x y,H x→H y→∃c:Int,C x y=some c∧(c < 0↔lt x y=true)
structure Al (H:Value→Prop) (N:Nat) (d:Array Value):Prop where
 sz:d.size=N
 all:∀i,i < N→H d[i]!
theorem rdA {d:Array Value} {i:Nat} (h:i < d.size):Ty.rd .raw d.toList (i:Int)=d[i]! := by
 show d.toList.getD ((i:Int)).toNat _=_
 rw[Int.toNat_natCast,List.getD_eq_getElem?_getD,getElem!_pos d i h]
 simp[h]
theorem swpL (d:Array Value) (i j:Nat):(d.toList.set i d[j]!).set j d[i]! = (swp d i j).toList:=by
 unfold swp
 rw[Array.toList_setIfInBounds,Array.toList_setIfInBounds]
theorem Al.swp {N:Nat} {d:Array Value} (h:Al H N d) {i j:Nat} (hi:i < N) (hj:j < N):Al H N (swp d i j) where
 sz:=(Go.Sort.swp_size d i j).trans h.sz
 all:=fun k hk=>by
  rw[Go.Sort.swp_get d (by rw[h.sz];exact hi) (by rw[h.sz];exact hj)]
  split
  ·
   exact h.all i hi
  ·
   split
   ·
    exact h.all j hj
   ·
    exact h.all k hk
theorem wA {a b:Nat} (h:a+b≤4000000000000000000):wrapI ((a:Int)+(b:Int))=((a+b:Nat):Int):=by rw[w64 (by omega) (by omega)];omega
theorem wS {a b:Nat} (h:b≤a) (h2:a≤4000000000000000000):wrapI ((a:Int) - (b:Int))=((a - b:Nat):Int):=by rw[w64 (by omega) (by omega)];omega
theorem wP {j:Nat} (h0:1≤j) (h:j≤4000000000000000000):wrapI ((j:Int) - 1)=((j - 1:Nat):Int):=by rw[w64 (by omega) (by omega)];omega
theorem w2 {j:Nat} (h:j≤4000000000000000000):wrapI (2*(j:Int))=((2*j:Nat):Int):=by rw[w64 (by omega) (by omega)];omega
theorem map_id' {C:Value→Value→Option Int}:(fun z0 z1=>(C z0 z1).map fun z=>z)=C:=by funext a b;cases C a b <;> rfl
theorem insI {N:Nat} (hc:Cm H lt C) (hN:N≤1000000000) {a:Nat} {b x8:Int}:∀(j:Nat) (d:Array Value),j < N→Al H N d →
  _root_.Go.Proofs.YthmcpmnhdbeahaaGreat.R.Zg.l1 (a:Int) b C x8 (j:Int) d.toList=_root_.Go.Proofs.YthmcpmnhdbeahaaGreat.R.Zg.l0 (a:Int) b C (wrapI (x8+1)) (insInner lt a j d).toList∧Al H N (insInner lt a j d):=by
 intro j
 induction j with
 | zero =>
  intro d hj hd
  refine⟨?_,hd⟩
  rw[_root_.Go.Proofs.YthmcpmnhdbeahaaGreat.R.Zg.l1_eq,if_neg (by omega)]
  rfl
 | succ j ih =>
  intro d hj hd
  have hs:=hd.sz
  obtain⟨c,c1,c2⟩:=hc.cmp _ _ (hd.all (j+1) hj) (hd.all j (by omega))
  have w1:wrapI (((j+1:Nat):Int) - 1)=(j:Int):=by rw[w64 (by omega) (by omega)];omega
  rw[_root_.Go.Proofs.YthmcpmnhdbeahaaGreat.R.Zg.l1_eq,w1,rdA (i:=j+1) (by omega),rdA (i:=j) (by omega)]
  simp only[List.length_set,Array.length_toList,Int.toNat_natCast]
  rw[swpL]
  rw[hs]
  have e:insInner lt a (j+1) d=if j+1 > a && lt d[j+1]! d[j]! then insInner lt a j (Go.Sort.swp d (j+1) j)else d:=rfl
  by_cases h1:j+1 > a
  ·
   by_cases h2:lt d[j+1]! d[j]! = true
   ·
    have h3:=c2.2 h2
    obtain⟨i1,i2⟩:=ih (Go.Sort.swp d (j+1) j) (by omega) (hd.swp hj (by omega))
    rw[e.trans (if_pos (by simp[h1,h2]))]
    refine⟨?_,i2⟩
    (with_reducible repeat (first|refine Zq (by first|assumption|omega|rfl|exact B_pos (by omega)) ?_|refine Zp (by first|assumption|omega|decide|exact B_not (by omega)) ?_|refine Zk (by first|assumption) ?_|dsimp only))
    exact i1
   ·
    have h3:¬ c < 0:=fun k=>h2 (c2.1 k)
    rw[e.trans (if_neg (by simp[h2]))]
    refine⟨?_,hd⟩
    (with_reducible repeat (first|refine Zq (by first|assumption|omega|rfl|exact B_pos (by omega)) ?_|refine Zp (by first|assumption|omega|decide|exact B_not (by omega)) ?_|refine Zk (by first|assumption) ?_|dsimp only))
  ·
   rw[e.trans (if_neg (by simp;omega))]
   refine⟨?_,hd⟩
   (with_reducible repeat (first|refine Zq (by first|assumption|omega|rfl|exact B_pos (by omega)) ?_|refine Zp (by first|assumption|omega|decide|exact B_not (by omega)) ?_|refine Zk (by first|assumption) ?_|dsimp only))
theorem insO {N:Nat} (hc:Cm H lt C) (hN:N≤1000000000) {a b:Nat} (hb:b≤N):∀(n i:Nat) (d:Array Value),b - i≤n→i≤N→Al H N d →
  _root_.Go.Proofs.YthmcpmnhdbeahaaGreat.R.Zg.l0 (a:Int) (b:Int) C (i:Int) d.toList=some (insOuter lt a b i d).toList:=by
 intro n
 induction n with
 | zero =>
  intro i d hn hi hd
  rw[_root_.Go.Proofs.YthmcpmnhdbeahaaGreat.R.Zg.l0_eq,if_neg (by omega),insOuter,if_neg (by omega)]
 | succ n ih =>
  intro i d hn hi hd
  rw[_root_.Go.Proofs.YthmcpmnhdbeahaaGreat.R.Zg.l0_eq,insOuter]
  by_cases h:i < b
  ·
   obtain⟨i1,i2⟩:=insI hc hN (a:=a) (b:=(b:Int)) (x8:=(i:Int)) i d (by omega) hd
   rw[if_pos (by omega),if_pos h,i1,wn (j:=i) (by omega)]
   exact ih _ _ (by omega) (by omega) i2
  ·
   rw[if_neg (by omega),if_neg h]
theorem insS {N:Nat} (hc:Cm H lt C) (hN:N≤1000000000) {a b:Nat} (hab:a≤b) (hb:b≤N) {d:Array Value} (hd:Al H N d) :
  ∃d', _root_.Go.Proofs.YthmcpmnhdbeahaaGreat.R.Zg.f d.toList (a:Int) (b:Int) C=some d'.toList∧PermIn a b d d' ∧ SortedIn lt a b d' := by
 have h:=Go.Sort.insertionSort_holds (lt:=lt) hc.swo d a b hab (by rw[hd.sz];exact hb)
 refine⟨_,?_,h.1,h.2⟩
 by_cases e:a+1≤N
 ·
  rw[_root_.Go.Proofs.YthmcpmnhdbeahaaGreat.R.Zg.f_eq,wn (j:=a) (by omega)]
  exact insO hc hN hb _ _ d (Nat.le_refl _) e hd
 ·
  rw[_root_.Go.Proofs.YthmcpmnhdbeahaaGreat.R.Zg.f_eq,wn (j:=a) (by omega),_root_.Go.Proofs.YthmcpmnhdbeahaaGreat.R.Zg.l0_eq,if_neg (by omega)]
  unfold insertionSort
  rw[insOuter,if_neg (by omega)]
theorem siftL {N:Nat} (hc:Cm H lt C) (hN:N≤1000000000) {hi first:Nat} (hf:first+hi≤N):∀(n root:Nat) (d:Array Value),hi - root≤n→root≤N→Al H N d →
  _root_.Go.Proofs.YthmcpmnhdbeahaaGreat.R.Zu.l0 (hi:Int) (first:Int) C (root:Int) d.toList=some (siftDown lt hi first root d).toList∧Al H N (siftDown lt hi first root d):=by
 intro n
 induction n with
 | zero =>
  intro root d hn hr hd
  rw[_root_.Go.Proofs.YthmcpmnhdbeahaaGreat.R.Zu.l0_eq,w2 (by omega),wn (j:=2*root) (by omega),if_pos (by omega),siftDown,dif_pos (by omega)]
  exact⟨rfl,hd⟩
 | succ n ih =>
  intro root d hn hr hd
  rw[_root_.Go.Proofs.YthmcpmnhdbeahaaGreat.R.Zu.l0_eq,w2 (by omega),wn (j:=2*root) (by omega)]
  by_cases h0:2*root+1≥hi
  ·
   rw[if_pos (by omega),siftDown,dif_pos h0]
   exact⟨rfl,hd⟩
  rw[if_neg (by omega)]
  have hs:=hd.sz
  have e1:first+(2*root+1)+1=first+(2*root+2):=by omega
  have e2:2*root+1+1=2*root+2:=rfl
  rw[wn (j:=2*root+1) (by omega),wA (a:=first) (b:=2*root+1) (by omega),wn (j:=first+(2*root+1)) (by omega),wA (a:=first) (b:=root) (by omega),wA (a:=first) (b:=2*root+1+1) (by omega),e1,e2]
  rw[rdA (i:=first+root) (by omega),rdA (i:=first+(2*root+1)) (by omega)]
  simp only[List.length_set,Array.length_toList,Int.toNat_natCast]
  obtain⟨c,c1,c2⟩:=hc.cmp _ _ (hd.all (first+root) (by omega)) (hd.all (first+(2*root+1)) (by omega))
  obtain⟨a1,a2⟩:=ih (2*root+1) (Go.Sort.swp d (first+root) (first+(2*root+1))) (by omega) (by omega) (hd.swp (by omega) (by omega))
  by_cases h1:2*root+2 < hi
  ·
   rw[rdA (i:=first+(2*root+2)) (by omega),swpL,swpL]
   obtain⟨x,x1,x2⟩:=hc.cmp _ _ (hd.all (first+(2*root+1)) (by omega)) (hd.all (first+(2*root+2)) (by omega))
   obtain⟨y,y1,y2⟩:=hc.cmp _ _ (hd.all (first+root) (by omega)) (hd.all (first+(2*root+2)) (by omega))
   by_cases h2:lt d[first+(2*root+1)]! d[first+(2*root+2)]! = true
   ·
    have h3:=x2.2 h2
    by_cases h4:lt d[first+root]! d[first+(2*root+2)]! = true
    ·
     have h5:=y2.2 h4
     obtain⟨b1,b2⟩:=ih (2*root+2) (Go.Sort.swp d (first+root) (first+(2*root+2))) (by omega) (by omega) (hd.swp (by omega) (by omega))
     have e:siftDown lt hi first root d=siftDown lt hi first (2*root+2) (Go.Sort.swp d (first+root) (first+(2*root+2))):=by
      rw[siftDown,dif_neg h0,e1,if_pos (by simp[h1,h2]),if_neg (by simp[h4]),dif_pos h1]
     rw[e]
     refine⟨?_,b2⟩
     (with_reducible repeat (first|refine Zq (by first|assumption|omega|rfl|exact B_pos (by omega)) ?_|refine Zp (by first|assumption|omega|decide|exact B_not (by omega)) ?_|refine Zk (by first|assumption) ?_|dsimp only))
     exact b1
    ·
     have h5:¬ y < 0:=fun k=>h4 (y2.1 k)
     have e:siftDown lt hi first root d=d:=by
      rw[siftDown,dif_neg h0,e1,if_pos (by simp[h1,h2]),if_pos (by simp[h4])]
     rw[e]
     refine⟨?_,hd⟩
     (with_reducible repeat (first|refine Zq (by first|assumption|omega|rfl|exact B_pos (by omega)) ?_|refine Zp (by first|assumption|omega|decide|exact B_not (by omega)) ?_|refine Zk (by first|assumption) ?_|dsimp only))
   ·
    have h3:¬ x < 0:=fun k=>h2 (x2.1 k)
    by_cases h4:lt d[first+root]! d[first+(2*root+1)]! = true
    ·
     have h5:=c2.2 h4
     have e:siftDown lt hi first root d=siftDown lt hi first (2*root+1) (Go.Sort.swp d (first+root) (first+(2*root+1))):=by
      rw[siftDown,dif_neg h0,e1,if_neg (by simp[h2]),if_neg (by simp[h4])]
     rw[e]
     refine⟨?_,a2⟩
     (with_reducible repeat (first|refine Zq (by first|assumption|omega|rfl|exact B_pos (by omega)) ?_|refine Zp (by first|assumption|omega|decide|exact B_not (by omega)) ?_|refine Zk (by first|assumption) ?_|dsimp only))
     exact a1
    ·
     have h5:¬ c < 0:=fun k=>h4 (c2.1 k)
     have e:siftDown lt hi first root d=d:=by
      rw[siftDown,dif_neg h0,e1,if_neg (by simp[h2]),if_pos (by simp[h4])]
     rw[e]
     refine⟨?_,hd⟩
     (with_reducible repeat (first|refine Zq (by first|assumption|omega|rfl|exact B_pos (by omega)) ?_|refine Zp (by first|assumption|omega|decide|exact B_not (by omega)) ?_|refine Zk (by first|assumption) ?_|dsimp only))
  ·
   rw[if_neg (c:=((2*root+2:Nat):Int) < (hi:Int)) (by omega),swpL]
   by_cases h4:lt d[first+root]! d[first+(2*root+1)]! = true
   ·
    have h5:=c2.2 h4
    have e:siftDown lt hi first root d=siftDown lt hi first (2*root+1) (Go.Sort.swp d (first+root) (first+(2*root+1))):=by
     rw[siftDown,dif_neg h0,e1,if_neg (by simp[h1]),if_neg (by simp[h4])]
    rw[e]
    refine⟨?_,a2⟩
    (with_reducible repeat (first|refine Zq (by first|assumption|omega|rfl|exact B_pos (by omega)) ?_|refine Zp (by first|assumption|omega|decide|exact B_not (by omega)) ?_|refine Zk (by first|assumption) ?_|dsimp only))
    exact a1
   ·
    have h5:¬ c < 0:=fun k=>h4 (c2.1 k)
    have e:siftDown lt hi first root d=d:=by
     rw[siftDown,dif_neg h0,e1,if_neg (by simp[h1]),if_pos (by simp[h4])]
    rw[e]
    refine⟨?_,hd⟩
    (with_reducible repeat (first|refine Zq (by first|assumption|omega|rfl|exact B_pos (by omega)) ?_|refine Zp (by first|assumption|omega|decide|exact B_not (by omega)) ?_|refine Zk (by first|assumption) ?_|dsimp only))
theorem siftF {N:Nat} (hc:Cm H lt C) (hN:N≤1000000000) {hi first root:Nat} (hf:first+hi≤N) (hr:root≤N) {d:Array Value} (hd:Al H N d) :
  _root_.Go.Proofs.YthmcpmnhdbeahaaGreat.R.Zu.f d.toList (root:Int) (hi:Int) (first:Int) C=some (siftDown lt hi first root d).toList∧Al H N (siftDown lt hi first root d):=by
 rw[_root_.Go.Proofs.YthmcpmnhdbeahaaGreat.R.Zu.f_eq]
 exact siftL hc hN hf _ root d (Nat.le_refl _) hr hd
theorem heapB {N:Nat} (hc:Cm H lt C) (hN:N≤1000000000) {hi first:Nat} {x9:Int} (hf:first+hi≤N):∀(k:Nat) (d:Array Value),k≤N→Al H N d →
  _root_.Go.Proofs.YthmcpmnhdbeahaaGreat.R.Zm.l0 C (first:Int) x9 (hi:Int) ((k:Int) - 1) d.toList=_root_.Go.Proofs.YthmcpmnhdbeahaaGreat.R.Zm.l1 C (first:Int) x9 (wrapI ((hi:Int) - 1)) (heapBuild lt hi first k d).toList∧Al H N (heapBuild lt hi first k d):=by
 intro k
 induction k with
 | zero =>
  intro d _ hd
  refine⟨?_,hd⟩
  rw[_root_.Go.Proofs.YthmcpmnhdbeahaaGreat.R.Zm.l0_eq,if_neg (by omega)]
  rfl
 | succ k ih =>
  intro d hk hd
  obtain⟨s1,s2⟩:=siftF hc hN (root:=k) hf (by omega) hd
  obtain⟨i1,i2⟩:=ih _ (by omega) s2
  refine⟨?_,i2⟩
  rw[show((k+1:Nat):Int) - 1=(k:Int)by omega,_root_.Go.Proofs.YthmcpmnhdbeahaaGreat.R.Zm.l0_eq,if_pos (by omega),map_id', s1,Option.bind_some,w64 (by omega) (by omega)]
  exact i1
theorem heapP {N:Nat} (hc:Cm H lt C) (hN:N≤1000000000) {first:Nat}:∀(k:Nat) (d:Array Value),first+k≤N→Al H N d →
  _root_.Go.Proofs.YthmcpmnhdbeahaaGreat.R.Zm.l1 C (first:Int) 0 ((k:Int) - 1) d.toList=some (heapPop lt first k d).toList:=by
 intro k
 induction k with
 | zero =>
  intro d _ hd
  rw[_root_.Go.Proofs.YthmcpmnhdbeahaaGreat.R.Zm.l1_eq,if_neg (by omega)]
  rfl
 | succ k ih =>
  intro d hk hd
  have hs:=hd.sz
  obtain⟨s1,s2⟩:=siftF hc hN (hi:=k) (first:=first) (root:=0) (d:=Go.Sort.swp d first (first+k)) (by omega) (by omega) (hd.swp (by omega) (by omega))
  have i1:=ih _ (by omega) s2
  rw[Int.natCast_zero]at s1
  rw[show((k+1:Nat):Int) - 1=(k:Int)by omega,_root_.Go.Proofs.YthmcpmnhdbeahaaGreat.R.Zm.l1_eq,wA (a:=first) (b:=k) (by omega),map_id', rdA (i:=first) (by omega),rdA (i:=first+k) (by omega)]
  simp only[List.length_set,Array.length_toList,Int.toNat_natCast]
  rw[swpL,s1,Option.bind_some,w64 (x:=(k:Int) - 1) (by omega) (by omega)]
  (with_reducible repeat (first|refine Zq (by first|assumption|omega|rfl|exact B_pos (by omega)) ?_|refine Zp (by first|assumption|omega|decide|exact B_not (by omega)) ?_|refine Zk (by first|assumption) ?_|dsimp only))
  exact i1
theorem heapS {N:Nat} (hc:Cm H lt C) (hN:N≤1000000000) {a b:Nat} (hab:a < b) (hb:b≤N) {d:Array Value} (hd:Al H N d) :
  ∃d', _root_.Go.Proofs.YthmcpmnhdbeahaaGreat.R.Zm.f d.toList (a:Int) (b:Int) C=some d'.toList∧PermIn a b d d' ∧ SortedIn lt a b d' := by
 have h:=Go.Sort.heapSort_holds (lt:=lt) hc.swo d a b (by omega) (by rw[hd.sz];exact hb)
 refine⟨_,?_,h.1,h.2⟩
 have t:((b - a - 1:Nat):Int).tdiv 2=(((b - a - 1) / 2+1:Nat):Int) - 1:=by
  rw[Int.tdiv_eq_ediv_of_nonneg (by omega)]
  omega
 obtain⟨h1,h2⟩:=heapB hc hN (hi:=b - a) (first:=a) (x9:=0) (by omega) ((b - a - 1) / 2+1) d (by omega) hd
 rw[_root_.Go.Proofs.YthmcpmnhdbeahaaGreat.R.Zm.f_eq,wS (a:=b) (b:=a) (by omega) (by omega),wP (j:=b - a) (by omega) (by omega),t,w64 (by omega) (by omega),h1,w64 (by omega) (by omega),heapP hc hN (b - a) _ (by omega) h2]
 rfl
theorem revL {N:Nat} (hN:N≤1000000000):∀(n i j:Nat) (d:Array Value),j - i≤n→j < N→i≤N→Al H N d →
  _root_.Go.Proofs.YthmcpmnhdbeahaaGreat.R.Zr.l0 (i:Int) (j:Int) d.toList=some (reverseLoop i j d).toList:=by
 intro n
 induction n with
 | zero =>
  intro i j d hn hj hi hd
  rw[_root_.Go.Proofs.YthmcpmnhdbeahaaGreat.R.Zr.l0_eq,if_neg (by omega),reverseLoop,if_neg (by omega)]
 | succ n ih =>
  intro i j d hn hj hi hd
  have hs:=hd.sz
  rw[_root_.Go.Proofs.YthmcpmnhdbeahaaGreat.R.Zr.l0_eq,reverseLoop]
  by_cases h:i < j
  ·
   rw[if_pos h,rdA (i:=i) (by omega),rdA (i:=j) (by omega),wn (j:=i) (by omega),wP (j:=j) (by omega) (by omega)]
   simp only[List.length_set,Array.length_toList,Int.toNat_natCast]
   rw[swpL]
   have:=ih (i+1) (j - 1) (Go.Sort.swp d i j) (by omega) (by omega) (by omega) (hd.swp (by omega) (by omega))
   (with_reducible repeat (first|refine Zq (by first|assumption|omega|rfl|exact B_pos (by omega)) ?_|refine Zp (by first|assumption|omega|decide|exact B_not (by omega)) ?_|refine Zk (by first|assumption) ?_|dsimp only))
   exact this
  ·
   rw[if_neg h,if_neg (by omega)]
theorem revS {N:Nat} (hN:N≤1000000000) {a b:Nat} (hab:a < b) (hb:b≤N) {d:Array Value} (hd:Al H N d) :
  ∃d', _root_.Go.Proofs.YthmcpmnhdbeahaaGreat.R.Zr.f d.toList (a:Int) (b:Int) C=some d'.toList∧PermIn a b d d' := by
 refine⟨_,?_,Go.Sort.reverseRange_holds d a b (by omega) (by rw[hd.sz];exact hb)⟩
 rw[_root_.Go.Proofs.YthmcpmnhdbeahaaGreat.R.Zr.f_eq,wP (j:=b) (by omega) (by omega)]
 exact revL hN _ a (b - 1) d (Nat.le_refl _) (by omega) (by omega) hd
end Go.Proofs.YthmcpmnhdbeahaaGreat.V
namespace Go.Proofs.YthmcpmnhdbeahaaGreat.V
open Go Go.RowKit Go.Proofs.YthmcpmnhdbeahaaGreat.D Go.Proofs.YthmcpmnhdbeahaaGreat.P
open Go.Sort (swp insInner insOuter insertionSort siftDown heapBuild heapPop heapSort scanUp scanDown partLoop partition partEqLoop partitionEqual scanSorted shiftDown shiftUp partialIns partialInsertionSort reverseLoop reverseRange SWO PermIn SortedIn)
variable {H:Value→Prop} {lt:Value→Value→Bool} {C:Value→Value→Option Int}
theorem ZmM {N:Nat} (hc:Cm H lt C) (hN:N≤1000000000) {a:Nat} (ha:a < N) {d:Array Value} (hd:Al H N d) {j:Nat} (hj:j < N):∀(n i:Nat),j+1 - i≤n→i≤N+1 →
  _root_.Go.Proofs.YthmcpmnhdbeahaaGreat.R.Ze.l0 (a:Int) C (i:Int) (j:Int) d.toList=_root_.Go.Proofs.YthmcpmnhdbeahaaGreat.R.Ze.l1 (a:Int) C ((scanUp (fun x=>lt x d[a]!) d j i:Nat):Int) (j:Int) d.toList:=by
 intro n
 induction n with
 | zero =>
  intro i hn hi
  rw[_root_.Go.Proofs.YthmcpmnhdbeahaaGreat.R.Ze.l0_eq,if_neg (by omega),scanUp,if_neg (by simp;omega)]
 | succ n ih =>
  intro i hn hi
  have hs:=hd.sz
  by_cases h:i≤j
  ·
   obtain⟨c,c1,c2⟩:=hc.cmp _ _ (hd.all i (by omega)) (hd.all a ha)
   rw[_root_.Go.Proofs.YthmcpmnhdbeahaaGreat.R.Ze.l0_eq,rdA (i:=i) (by omega),rdA (i:=a) (by omega),wn (j:=i) (by omega)]
   simp only[List.length_set,Array.length_toList,Int.toNat_natCast,swpL,Nat.add_sub_cancel]
   by_cases h2:lt d[i]! d[a]! = true
   ·
    have h3:=c2.2 h2
    have i1:=ih (i+1) (by omega) (by omega)
    have e:scanUp (fun x=>lt x d[a]!) d j i=scanUp (fun x=>lt x d[a]!) d j (i+1):=by rw[scanUp,if_pos (by simp[h,h2])]
    rw[e]
    (with_reducible repeat (first|refine Zq (by first|assumption|omega|rfl|exact B_pos (by omega)) ?_|refine Zp (by first|assumption|omega|decide|exact B_not (by omega)) ?_|refine Zk (by first|assumption) ?_|dsimp only))
    exact i1
   ·
    have h3:¬ c < 0:=fun k=>h2 (c2.1 k)
    have e:scanUp (fun x=>lt x d[a]!) d j i=i:=by rw[scanUp,if_neg (by simp[h2])]
    rw[e]
    (with_reducible repeat (first|refine Zq (by first|assumption|omega|rfl|exact B_pos (by omega)) ?_|refine Zp (by first|assumption|omega|decide|exact B_not (by omega)) ?_|refine Zk (by first|assumption) ?_|dsimp only))
  ·
   rw[_root_.Go.Proofs.YthmcpmnhdbeahaaGreat.R.Ze.l0_eq,if_neg (by omega),scanUp,if_neg (by simp;omega)]
theorem ZmL {N:Nat} (hc:Cm H lt C) (hN:N≤1000000000) {a:Nat} (ha:a < N) {d:Array Value} (hd:Al H N d) {i:Nat} (i1:1≤i) (i2:i≤N+1):∀(j:Nat),j < N →
  (scanDown (fun x => !lt x d[a]!) d i j≤j) ∧
  _root_.Go.Proofs.YthmcpmnhdbeahaaGreat.R.Ze.l1 (a:Int) C (i:Int) (j:Int) d.toList=if i > scanDown (fun x => !lt x d[a]!) d i j then some (((scanDown (fun x => !lt x d[a]!) d i j:Nat):Int),true,(swp d (scanDown (fun x => !lt x d[a]!) d i j) a).toList)
   else _root_.Go.Proofs.YthmcpmnhdbeahaaGreat.R.Ze.l2 (a:Int) C ((i+1:Nat):Int) ((scanDown (fun x => !lt x d[a]!) d i j - 1:Nat):Int) (swp d i (scanDown (fun x => !lt x d[a]!) d i j)).toList:=by
 intro j
 induction j with
 | zero =>
  intro hj
  have hs:=hd.sz
  have e:scanDown (fun x => !lt x d[a]!) d i 0=0:=rfl
  rw[e,if_pos (by omega)]
  refine⟨Nat.le_refl _,?_⟩
  rw[_root_.Go.Proofs.YthmcpmnhdbeahaaGreat.R.Ze.l1_eq,if_neg (by omega),if_pos (by omega),rdA (i:=0) (by omega),rdA (i:=a) (by omega)]
  simp only[List.length_set,Array.length_toList,Int.toNat_natCast,swpL,Nat.add_sub_cancel]
  (with_reducible repeat (first|refine Zq (by first|assumption|omega|rfl|exact B_pos (by omega)) ?_|refine Zp (by first|assumption|omega|decide|exact B_not (by omega)) ?_|refine Zk (by first|assumption) ?_|dsimp only))
 | succ j ih =>
  intro hj
  have hs:=hd.sz
  obtain⟨k1,k2⟩:=ih (by omega)
  have e:scanDown (fun x => !lt x d[a]!) d i (j+1)=if i≤j+1 && !lt d[j+1]! d[a]! then scanDown (fun x => !lt x d[a]!) d i j else j+1:=rfl
  by_cases h:i≤j+1
  ·
   obtain⟨c,c1,c2⟩:=hc.cmp _ _ (hd.all (j+1) (by omega)) (hd.all a ha)
   by_cases h2:lt d[j+1]! d[a]! = true
   ·
    have h3:=c2.2 h2
    rw[e.trans (if_neg (by simp[h2])),if_neg (by omega)]
    refine⟨Nat.le_refl _,?_⟩
    rw[_root_.Go.Proofs.YthmcpmnhdbeahaaGreat.R.Ze.l1_eq,rdA (i:=j+1) (by omega),rdA (i:=i) (by omega),rdA (i:=a) (by omega),wn (j:=i) (by omega),wP (j:=j+1) (by omega) (by omega)]
    simp only[List.length_set,Array.length_toList,Int.toNat_natCast,swpL,Nat.add_sub_cancel]
    (with_reducible repeat (first|refine Zq (by first|assumption|omega|rfl|exact B_pos (by omega)) ?_|refine Zp (by first|assumption|omega|decide|exact B_not (by omega)) ?_|refine Zk (by first|assumption) ?_|dsimp only))
   ·
    have h3:¬ c < 0:=fun k=>h2 (c2.1 k)
    rw[e.trans (if_pos (by simp[h,h2])),←k2]
    refine⟨by omega,?_⟩
    rw[_root_.Go.Proofs.YthmcpmnhdbeahaaGreat.R.Ze.l1_eq,rdA (i:=j+1) (by omega),rdA (i:=i) (by omega),rdA (i:=a) (by omega),wP (j:=j+1) (by omega) (by omega)]
    simp only[List.length_set,Array.length_toList,Int.toNat_natCast,swpL,Nat.add_sub_cancel]
    (with_reducible repeat (first|refine Zq (by first|assumption|omega|rfl|exact B_pos (by omega)) ?_|refine Zp (by first|assumption|omega|decide|exact B_not (by omega)) ?_|refine Zk (by first|assumption) ?_|dsimp only))
  ·
   rw[e.trans (if_neg (by simp;omega)),if_pos (by omega)]
   refine⟨Nat.le_refl _,?_⟩
   rw[_root_.Go.Proofs.YthmcpmnhdbeahaaGreat.R.Ze.l1_eq,if_neg (by omega),if_pos (by omega),rdA (i:=j+1) (by omega),rdA (i:=a) (by omega)]
   simp only[List.length_set,Array.length_toList,Int.toNat_natCast,swpL,Nat.add_sub_cancel]
   (with_reducible repeat (first|refine Zq (by first|assumption|omega|rfl|exact B_pos (by omega)) ?_|refine Zp (by first|assumption|omega|decide|exact B_not (by omega)) ?_|refine Zk (by first|assumption) ?_|dsimp only))
theorem ZkN {N:Nat} (hc:Cm H lt C) (hN:N≤1000000000) {a:Nat} (ha:a < N) {d:Array Value} (hd:Al H N d) {j:Nat} (hj:j < N):∀(n i:Nat),j+1 - i≤n→i≤N+1 →
  _root_.Go.Proofs.YthmcpmnhdbeahaaGreat.R.Ze.l3 (a:Int) C (i:Int) (j:Int) d.toList=_root_.Go.Proofs.YthmcpmnhdbeahaaGreat.R.Ze.l4 (a:Int) C ((scanUp (fun x=>lt x d[a]!) d j i:Nat):Int) (j:Int) d.toList:=by
 intro n
 induction n with
 | zero =>
  intro i hn hi
  rw[_root_.Go.Proofs.YthmcpmnhdbeahaaGreat.R.Ze.l3_eq,if_neg (by omega),scanUp,if_neg (by simp;omega)]
 | succ n ih =>
  intro i hn hi
  have hs:=hd.sz
  by_cases h:i≤j
  ·
   obtain⟨c,c1,c2⟩:=hc.cmp _ _ (hd.all i (by omega)) (hd.all a ha)
   rw[_root_.Go.Proofs.YthmcpmnhdbeahaaGreat.R.Ze.l3_eq,rdA (i:=i) (by omega),rdA (i:=a) (by omega),wn (j:=i) (by omega)]
   simp only[List.length_set,Array.length_toList,Int.toNat_natCast,swpL,Nat.add_sub_cancel]
   by_cases h2:lt d[i]! d[a]! = true
   ·
    have h3:=c2.2 h2
    have i1:=ih (i+1) (by omega) (by omega)
    have e:scanUp (fun x=>lt x d[a]!) d j i=scanUp (fun x=>lt x d[a]!) d j (i+1):=by rw[scanUp,if_pos (by simp[h,h2])]
    rw[e]
    (with_reducible repeat (first|refine Zq (by first|assumption|omega|rfl|exact B_pos (by omega)) ?_|refine Zp (by first|assumption|omega|decide|exact B_not (by omega)) ?_|refine Zk (by first|assumption) ?_|dsimp only))
    exact i1
   ·
    have h3:¬ c < 0:=fun k=>h2 (c2.1 k)
    have e:scanUp (fun x=>lt x d[a]!) d j i=i:=by rw[scanUp,if_neg (by simp[h2])]
    rw[e]
    (with_reducible repeat (first|refine Zq (by first|assumption|omega|rfl|exact B_pos (by omega)) ?_|refine Zp (by first|assumption|omega|decide|exact B_not (by omega)) ?_|refine Zk (by first|assumption) ?_|dsimp only))
  ·
   rw[_root_.Go.Proofs.YthmcpmnhdbeahaaGreat.R.Ze.l3_eq,if_neg (by omega),scanUp,if_neg (by simp;omega)]
theorem ZkM {N:Nat} (hc:Cm H lt C) (hN:N≤1000000000) {a:Nat} (ha:a < N) {d:Array Value} (hd:Al H N d) {i:Nat} (i1:1≤i) (i2:i≤N+1):∀(j:Nat),j < N →
  (scanDown (fun x => !lt x d[a]!) d i j≤j) ∧
  _root_.Go.Proofs.YthmcpmnhdbeahaaGreat.R.Ze.l4 (a:Int) C (i:Int) (j:Int) d.toList=if i > scanDown (fun x => !lt x d[a]!) d i j then some (((scanDown (fun x => !lt x d[a]!) d i j:Nat):Int),false,(swp d (scanDown (fun x => !lt x d[a]!) d i j) a).toList)
   else _root_.Go.Proofs.YthmcpmnhdbeahaaGreat.R.Ze.l2 (a:Int) C ((i+1:Nat):Int) ((scanDown (fun x => !lt x d[a]!) d i j - 1:Nat):Int) (swp d i (scanDown (fun x => !lt x d[a]!) d i j)).toList:=by
 intro j
 induction j with
 | zero =>
  intro hj
  have hs:=hd.sz
  have e:scanDown (fun x => !lt x d[a]!) d i 0=0:=rfl
  rw[e,if_pos (by omega)]
  refine⟨Nat.le_refl _,?_⟩
  rw[_root_.Go.Proofs.YthmcpmnhdbeahaaGreat.R.Ze.l4_eq,if_neg (by omega),if_pos (by omega),rdA (i:=0) (by omega),rdA (i:=a) (by omega)]
  simp only[List.length_set,Array.length_toList,Int.toNat_natCast,swpL,Nat.add_sub_cancel]
  (with_reducible repeat (first|refine Zq (by first|assumption|omega|rfl|exact B_pos (by omega)) ?_|refine Zp (by first|assumption|omega|decide|exact B_not (by omega)) ?_|refine Zk (by first|assumption) ?_|dsimp only))
 | succ j ih =>
  intro hj
  have hs:=hd.sz
  obtain⟨k1,k2⟩:=ih (by omega)
  have e:scanDown (fun x => !lt x d[a]!) d i (j+1)=if i≤j+1 && !lt d[j+1]! d[a]! then scanDown (fun x => !lt x d[a]!) d i j else j+1:=rfl
  by_cases h:i≤j+1
  ·
   obtain⟨c,c1,c2⟩:=hc.cmp _ _ (hd.all (j+1) (by omega)) (hd.all a ha)
   by_cases h2:lt d[j+1]! d[a]! = true
   ·
    have h3:=c2.2 h2
    rw[e.trans (if_neg (by simp[h2])),if_neg (by omega)]
    refine⟨Nat.le_refl _,?_⟩
    rw[_root_.Go.Proofs.YthmcpmnhdbeahaaGreat.R.Ze.l4_eq,rdA (i:=j+1) (by omega),rdA (i:=i) (by omega),rdA (i:=a) (by omega),wn (j:=i) (by omega),wP (j:=j+1) (by omega) (by omega)]
    simp only[List.length_set,Array.length_toList,Int.toNat_natCast,swpL,Nat.add_sub_cancel]
    (with_reducible repeat (first|refine Zq (by first|assumption|omega|rfl|exact B_pos (by omega)) ?_|refine Zp (by first|assumption|omega|decide|exact B_not (by omega)) ?_|refine Zk (by first|assumption) ?_|dsimp only))
   ·
    have h3:¬ c < 0:=fun k=>h2 (c2.1 k)
    rw[e.trans (if_pos (by simp[h,h2])),←k2]
    refine⟨by omega,?_⟩
    rw[_root_.Go.Proofs.YthmcpmnhdbeahaaGreat.R.Ze.l4_eq,rdA (i:=j+1) (by omega),rdA (i:=i) (by omega),rdA (i:=a) (by omega),wP (j:=j+1) (by omega) (by omega)]
    simp only[List.length_set,Array.length_toList,Int.toNat_natCast,swpL,Nat.add_sub_cancel]
    (with_reducible repeat (first|refine Zq (by first|assumption|omega|rfl|exact B_pos (by omega)) ?_|refine Zp (by first|assumption|omega|decide|exact B_not (by omega)) ?_|refine Zk (by first|assumption) ?_|dsimp only))
  ·
   rw[e.trans (if_neg (by simp;omega)),if_pos (by omega)]
   refine⟨Nat.le_refl _,?_⟩
   rw[_root_.Go.Proofs.YthmcpmnhdbeahaaGreat.R.Ze.l4_eq,if_neg (by omega),if_pos (by omega),rdA (i:=j+1) (by omega),rdA (i:=a) (by omega)]
   simp only[List.length_set,Array.length_toList,Int.toNat_natCast,swpL,Nat.add_sub_cancel]
   (with_reducible repeat (first|refine Zq (by first|assumption|omega|rfl|exact B_pos (by omega)) ?_|refine Zp (by first|assumption|omega|decide|exact B_not (by omega)) ?_|refine Zk (by first|assumption) ?_|dsimp only))
theorem partL {N:Nat} (hc:Cm H lt C) (hN:N≤1000000000) {a:Nat} (ha:a < N):∀(n i j:Nat) (d:Array Value),j+1 - i≤n→1≤i→i≤N+1→j < N→Al H N d →
  _root_.Go.Proofs.YthmcpmnhdbeahaaGreat.R.Ze.l2 (a:Int) C (i:Int) (j:Int) d.toList=some (((partLoop lt a i j d).1:Int),false,(swp (partLoop lt a i j d).2 (partLoop lt a i j d).1 a).toList):=by
 intro n
 induction n with
 | zero =>
  intro i j d hn hi hi2 hj hd
  have u:=ZkN hc hN ha hd hj _ i (Nat.le_refl _) hi2
  have su:=Go.Sort.scanUp_spec (fun x=>lt x d[a]!) d j _ i rfl
  have su1:scanUp (fun x=>lt x d[a]!) d j i≤N+1:=by
   by_cases h:i≤j+1
   ·
    have:=su.2.1 h;omega
   ·
    rw[scanUp,if_neg (by simp;omega)];exact hi2
  obtain⟨v1,v2⟩:=ZkM hc hN ha hd (i:=scanUp (fun x=>lt x d[a]!) d j i) (by omega) su1 j hj
  rw[_root_.Go.Proofs.YthmcpmnhdbeahaaGreat.R.Ze.l2_eq,u,v2,Go.Sort.partLoop_eq]
  rw[if_pos (by omega),if_pos (by omega)]
 | succ n ih =>
  intro i j d hn hi hi2 hj hd
  have u:=ZkN hc hN ha hd hj _ i (Nat.le_refl _) hi2
  have su:=Go.Sort.scanUp_spec (fun x=>lt x d[a]!) d j _ i rfl
  have su1:scanUp (fun x=>lt x d[a]!) d j i≤N+1:=by
   by_cases h:i≤j+1
   ·
    have:=su.2.1 h;omega
   ·
    rw[scanUp,if_neg (by simp;omega)];exact hi2
  obtain⟨v1,v2⟩:=ZkM hc hN ha hd (i:=scanUp (fun x=>lt x d[a]!) d j i) (by omega) su1 j hj
  rw[_root_.Go.Proofs.YthmcpmnhdbeahaaGreat.R.Ze.l2_eq,u,v2,Go.Sort.partLoop_eq]
  by_cases h:scanUp (fun x=>lt x d[a]!) d j i > scanDown (fun x => !lt x d[a]!) d (scanUp (fun x=>lt x d[a]!) d j i) j
  ·
   rw[if_pos h,if_pos h]
  ·
   rw[if_neg h,if_neg h]
   exact ih _ _ _ (by omega) (by omega) (by omega) (by omega) (hd.swp (by omega) (by omega))
theorem partF {N:Nat} (hc:Cm H lt C) (hN:N≤1000000000) {a b pivot:Nat} (hp1:a≤pivot) (hp2:pivot < b) (hb:b≤N) {d:Array Value} (hd:Al H N d) :
    _root_.Go.Proofs.YthmcpmnhdbeahaaGreat.R.Ze.f d.toList (a:Int) (b:Int) (pivot:Int) C=some (((partition lt d a b pivot).1:Int),(partition lt d a b pivot).2.1,(partition lt d a b pivot).2.2.toList):=by
  have hs:=hd.sz
  rw[_root_.Go.Proofs.YthmcpmnhdbeahaaGreat.R.Ze.f_eq,rdA (i:=a) (by omega),rdA (i:=pivot) (by omega),wn (j:=a) (by omega),wP (j:=b) (by omega) (by omega)]
  simp only[List.length_set,Array.length_toList,Int.toNat_natCast,swpL,Nat.add_sub_cancel]
  have hd2:=hd.swp (i:=a) (j:=pivot) (by omega) (by omega)
  obtain⟨d2,hd2e⟩:∃d2,d2=Go.Sort.swp d a pivot:=⟨_,rfl⟩
  have e:partition lt d a b pivot=if scanUp (fun x=>lt x d2[a]!) d2 (b - 1) (a+1) > scanDown (fun x => !lt x d2[a]!) d2 (scanUp (fun x=>lt x d2[a]!) d2 (b - 1) (a+1)) (b - 1)then(scanDown (fun x => !lt x d2[a]!) d2 (scanUp (fun x=>lt x d2[a]!) d2 (b - 1) (a+1)) (b - 1),true,swp d2 (scanDown (fun x => !lt x d2[a]!) d2 (scanUp (fun x=>lt x d2[a]!) d2 (b - 1) (a+1)) (b - 1)) a)else
    ((partLoop lt a (scanUp (fun x=>lt x d2[a]!) d2 (b - 1) (a+1)+1) (scanDown (fun x => !lt x d2[a]!) d2 (scanUp (fun x=>lt x d2[a]!) d2 (b - 1) (a+1)) (b - 1) - 1) (swp d2 (scanUp (fun x=>lt x d2[a]!) d2 (b - 1) (a+1)) (scanDown (fun x => !lt x d2[a]!) d2 (scanUp (fun x=>lt x d2[a]!) d2 (b - 1) (a+1)) (b - 1)))).1,false,
      swp (partLoop lt a (scanUp (fun x=>lt x d2[a]!) d2 (b - 1) (a+1)+1) (scanDown (fun x => !lt x d2[a]!) d2 (scanUp (fun x=>lt x d2[a]!) d2 (b - 1) (a+1)) (b - 1) - 1) (swp d2 (scanUp (fun x=>lt x d2[a]!) d2 (b - 1) (a+1)) (scanDown (fun x => !lt x d2[a]!) d2 (scanUp (fun x=>lt x d2[a]!) d2 (b - 1) (a+1)) (b - 1)))).2 (partLoop lt a (scanUp (fun x=>lt x d2[a]!) d2 (b - 1) (a+1)+1) (scanDown (fun x => !lt x d2[a]!) d2 (scanUp (fun x=>lt x d2[a]!) d2 (b - 1) (a+1)) (b - 1) - 1) (swp d2 (scanUp (fun x=>lt x d2[a]!) d2 (b - 1) (a+1)) (scanDown (fun x => !lt x d2[a]!) d2 (scanUp (fun x=>lt x d2[a]!) d2 (b - 1) (a+1)) (b - 1)))).1 a):=by rw[hd2e];rfl
  rw[←hd2e]at hd2 ⊢
  have u:=ZmM hc hN (a:=a) (by omega) hd2 (j:=b - 1) (by omega) _ (a+1) (Nat.le_refl _) (by omega)
  have su:=Go.Sort.scanUp_spec (fun x=>lt x d2[a]!) d2 (b - 1) _ (a+1) rfl
  have su1:=su.2.1 (by omega)
  obtain⟨v1,v2⟩:=ZmL hc hN (a:=a) (by omega) hd2 (i:=scanUp (fun x=>lt x d2[a]!) d2 (b - 1) (a+1)) (by omega) (by omega) (b - 1) (by omega)
  rw[u,v2,e]
  by_cases h:scanUp (fun x=>lt x d2[a]!) d2 (b - 1) (a+1) > scanDown (fun x => !lt x d2[a]!) d2 (scanUp (fun x=>lt x d2[a]!) d2 (b - 1) (a+1)) (b - 1)
  · rw[if_pos h,if_pos h]
    (with_reducible repeat (first|refine Zq (by first|assumption|omega|rfl|exact B_pos (by omega)) ?_|refine Zp (by first|assumption|omega|decide|exact B_not (by omega)) ?_|refine Zk (by first|assumption) ?_|dsimp only))
  · rw[if_neg h,if_neg h]
    have:=partL hc hN (a:=a) (by omega) _ (scanUp (fun x=>lt x d2[a]!) d2 (b - 1) (a+1)+1) (scanDown (fun x => !lt x d2[a]!) d2 (scanUp (fun x=>lt x d2[a]!) d2 (b - 1) (a+1)) (b - 1) - 1) _ (Nat.le_refl _) (by omega) (by omega) (by omega) (hd2.swp (i:=scanUp (fun x=>lt x d2[a]!) d2 (b - 1) (a+1)) (j:=scanDown (fun x => !lt x d2[a]!) d2 (scanUp (fun x=>lt x d2[a]!) d2 (b - 1) (a+1)) (b - 1)) (by omega) (by omega))
    (with_reducible repeat (first|refine Zq (by first|assumption|omega|rfl|exact B_pos (by omega)) ?_|refine Zp (by first|assumption|omega|decide|exact B_not (by omega)) ?_|refine Zk (by first|assumption) ?_|dsimp only))
    exact this
theorem peU {N:Nat} (hc:Cm H lt C) (hN:N≤1000000000) {a:Nat} (ha:a < N) {d:Array Value} (hd:Al H N d) {j:Nat} (hj:j < N):∀(n i:Nat),j+1 - i≤n→i≤N+1 →
  _root_.Go.Proofs.YthmcpmnhdbeahaaGreat.R.Zf.l1 (a:Int) C (i:Int) (j:Int) d.toList=_root_.Go.Proofs.YthmcpmnhdbeahaaGreat.R.Zf.l2 (a:Int) C ((scanUp (fun x => !lt d[a]! x) d j i:Nat):Int) (j:Int) d.toList:=by
 intro n
 induction n with
 | zero =>
  intro i hn hi
  rw[_root_.Go.Proofs.YthmcpmnhdbeahaaGreat.R.Zf.l1_eq,if_neg (by omega),scanUp,if_neg (by simp;omega)]
 | succ n ih =>
  intro i hn hi
  have hs:=hd.sz
  by_cases h:i≤j
  ·
   obtain⟨c,c1,c2⟩:=hc.cmp _ _ (hd.all a ha) (hd.all i (by omega))
   rw[_root_.Go.Proofs.YthmcpmnhdbeahaaGreat.R.Zf.l1_eq,rdA (i:=i) (by omega),rdA (i:=a) (by omega),wn (j:=i) (by omega)]
   simp only[List.length_set,Array.length_toList,Int.toNat_natCast,swpL,Nat.add_sub_cancel]
   by_cases h2:lt d[a]! d[i]! = true
   ·
    have h3:=c2.2 h2
    have e:scanUp (fun x => !lt d[a]! x) d j i=i:=by rw[scanUp,if_neg (by simp[h2])]
    rw[e]
    (with_reducible repeat (first|refine Zq (by first|assumption|omega|rfl|exact B_pos (by omega)) ?_|refine Zp (by first|assumption|omega|decide|exact B_not (by omega)) ?_|refine Zk (by first|assumption) ?_|dsimp only))
   ·
    have h3:¬ c < 0:=fun k=>h2 (c2.1 k)
    have i1:=ih (i+1) (by omega) (by omega)
    have e:scanUp (fun x => !lt d[a]! x) d j i=scanUp (fun x => !lt d[a]! x) d j (i+1):=by rw[scanUp,if_pos (by simp[h,h2])]
    rw[e]
    (with_reducible repeat (first|refine Zq (by first|assumption|omega|rfl|exact B_pos (by omega)) ?_|refine Zp (by first|assumption|omega|decide|exact B_not (by omega)) ?_|refine Zk (by first|assumption) ?_|dsimp only))
    exact i1
  ·
   rw[_root_.Go.Proofs.YthmcpmnhdbeahaaGreat.R.Zf.l1_eq,if_neg (by omega),scanUp,if_neg (by simp;omega)]
theorem peD {N:Nat} (hc:Cm H lt C) (hN:N≤1000000000) {a:Nat} (ha:a < N) {d:Array Value} (hd:Al H N d) {i:Nat} (i1:1≤i) (i2:i≤N+1):∀(j:Nat),j < N →
  (scanDown (fun x=>lt d[a]! x) d i j≤j) ∧
  _root_.Go.Proofs.YthmcpmnhdbeahaaGreat.R.Zf.l2 (a:Int) C (i:Int) (j:Int) d.toList=if i > scanDown (fun x=>lt d[a]! x) d i j then some ((i:Int),d.toList)
   else _root_.Go.Proofs.YthmcpmnhdbeahaaGreat.R.Zf.l0 (a:Int) C ((i+1:Nat):Int) ((scanDown (fun x=>lt d[a]! x) d i j - 1:Nat):Int) (swp d i (scanDown (fun x=>lt d[a]! x) d i j)).toList:=by
 intro j
 induction j with
 | zero =>
  intro hj
  have hs:=hd.sz
  have e:scanDown (fun x=>lt d[a]! x) d i 0=0:=rfl
  rw[e,if_pos (by omega)]
  refine⟨Nat.le_refl _,?_⟩
  rw[_root_.Go.Proofs.YthmcpmnhdbeahaaGreat.R.Zf.l2_eq,if_neg (by omega),if_pos (by omega)]
 | succ j ih =>
  intro hj
  have hs:=hd.sz
  obtain⟨k1,k2⟩:=ih (by omega)
  have e:scanDown (fun x=>lt d[a]! x) d i (j+1)=if i≤j+1 && lt d[a]! d[j+1]! then scanDown (fun x=>lt d[a]! x) d i j else j+1:=rfl
  by_cases h:i≤j+1
  ·
   obtain⟨c,c1,c2⟩:=hc.cmp _ _ (hd.all a ha) (hd.all (j+1) (by omega))
   by_cases h2:lt d[a]! d[j+1]! = true
   ·
    have h3:=c2.2 h2
    rw[e.trans (if_pos (by simp[h,h2])),←k2]
    refine⟨by omega,?_⟩
    rw[_root_.Go.Proofs.YthmcpmnhdbeahaaGreat.R.Zf.l2_eq,rdA (i:=j+1) (by omega),rdA (i:=i) (by omega),rdA (i:=a) (by omega),wP (j:=j+1) (by omega) (by omega)]
    simp only[List.length_set,Array.length_toList,Int.toNat_natCast,swpL,Nat.add_sub_cancel]
    (with_reducible repeat (first|refine Zq (by first|assumption|omega|rfl|exact B_pos (by omega)) ?_|refine Zp (by first|assumption|omega|decide|exact B_not (by omega)) ?_|refine Zk (by first|assumption) ?_|dsimp only))
   ·
    have h3:¬ c < 0:=fun k=>h2 (c2.1 k)
    rw[e.trans (if_neg (by simp[h2])),if_neg (by omega)]
    refine⟨Nat.le_refl _,?_⟩
    rw[_root_.Go.Proofs.YthmcpmnhdbeahaaGreat.R.Zf.l2_eq,rdA (i:=j+1) (by omega),rdA (i:=i) (by omega),rdA (i:=a) (by omega),wn (j:=i) (by omega),wP (j:=j+1) (by omega) (by omega)]
    simp only[List.length_set,Array.length_toList,Int.toNat_natCast,swpL,Nat.add_sub_cancel]
    (with_reducible repeat (first|refine Zq (by first|assumption|omega|rfl|exact B_pos (by omega)) ?_|refine Zp (by first|assumption|omega|decide|exact B_not (by omega)) ?_|refine Zk (by first|assumption) ?_|dsimp only))
  ·
   rw[e.trans (if_neg (by simp;omega)),if_pos (by omega)]
   refine⟨Nat.le_refl _,?_⟩
   rw[_root_.Go.Proofs.YthmcpmnhdbeahaaGreat.R.Zf.l2_eq,if_neg (by omega),if_pos (by omega)]
theorem peL {N:Nat} (hc:Cm H lt C) (hN:N≤1000000000) {a:Nat} (ha:a < N):∀(n i j:Nat) (d:Array Value),j+1 - i≤n→1≤i→i≤N+1→j < N→Al H N d →
  _root_.Go.Proofs.YthmcpmnhdbeahaaGreat.R.Zf.l0 (a:Int) C (i:Int) (j:Int) d.toList=some (((partEqLoop lt a i j d).1:Int),(partEqLoop lt a i j d).2.toList):=by
 intro n
 induction n with
 | zero =>
  intro i j d hn hi hi2 hj hd
  have u:=peU hc hN ha hd hj _ i (Nat.le_refl _) hi2
  have su:=Go.Sort.scanUp_spec (fun x => !lt d[a]! x) d j _ i rfl
  have su1:scanUp (fun x => !lt d[a]! x) d j i≤N+1:=by
   by_cases h:i≤j+1
   ·
    have:=su.2.1 h;omega
   ·
    rw[scanUp,if_neg (by simp;omega)];exact hi2
  obtain⟨v1,v2⟩:=peD hc hN ha hd (i:=scanUp (fun x => !lt d[a]! x) d j i) (by omega) su1 j hj
  rw[_root_.Go.Proofs.YthmcpmnhdbeahaaGreat.R.Zf.l0_eq,u,v2,Go.Sort.partEqLoop_eq]
  rw[if_pos (by omega),if_pos (by omega)]
 | succ n ih =>
  intro i j d hn hi hi2 hj hd
  have u:=peU hc hN ha hd hj _ i (Nat.le_refl _) hi2
  have su:=Go.Sort.scanUp_spec (fun x => !lt d[a]! x) d j _ i rfl
  have su1:scanUp (fun x => !lt d[a]! x) d j i≤N+1:=by
   by_cases h:i≤j+1
   ·
    have:=su.2.1 h;omega
   ·
    rw[scanUp,if_neg (by simp;omega)];exact hi2
  obtain⟨v1,v2⟩:=peD hc hN ha hd (i:=scanUp (fun x => !lt d[a]! x) d j i) (by omega) su1 j hj
  rw[_root_.Go.Proofs.YthmcpmnhdbeahaaGreat.R.Zf.l0_eq,u,v2,Go.Sort.partEqLoop_eq]
  by_cases h:scanUp (fun x => !lt d[a]! x) d j i > scanDown (fun x=>lt d[a]! x) d (scanUp (fun x => !lt d[a]! x) d j i) j
  ·
   rw[if_pos h,if_pos h]
  ·
   rw[if_neg h,if_neg h]
   exact ih _ _ _ (by omega) (by omega) (by omega) (by omega) (hd.swp (by omega) (by omega))
theorem peF {N:Nat} (hc:Cm H lt C) (hN:N≤1000000000) {a b pivot:Nat} (hp1:a≤pivot) (hp2:pivot < b) (hb:b≤N) {d:Array Value} (hd:Al H N d) :
  _root_.Go.Proofs.YthmcpmnhdbeahaaGreat.R.Zf.f d.toList (a:Int) (b:Int) (pivot:Int) C=some (((partitionEqual lt d a b pivot).1:Int),(partitionEqual lt d a b pivot).2.toList):=by
 have hs:=hd.sz
 rw[_root_.Go.Proofs.YthmcpmnhdbeahaaGreat.R.Zf.f_eq,rdA (i:=a) (by omega),rdA (i:=pivot) (by omega),wn (j:=a) (by omega),wP (j:=b) (by omega) (by omega)]
 simp only[List.length_set,Array.length_toList,Int.toNat_natCast,swpL,Nat.add_sub_cancel]
 have:=peL hc hN (a:=a) (by omega) _ (a+1) (b - 1) _ (Nat.le_refl _) (by omega) (by omega) (by omega) (hd.swp (i:=a) (j:=pivot) (by omega) (by omega))
 (with_reducible repeat (first|refine Zq (by first|assumption|omega|rfl|exact B_pos (by omega)) ?_|refine Zp (by first|assumption|omega|decide|exact B_not (by omega)) ?_|refine Zk (by first|assumption) ?_|dsimp only))
 exact this
end Go.Proofs.YthmcpmnhdbeahaaGreat.V
