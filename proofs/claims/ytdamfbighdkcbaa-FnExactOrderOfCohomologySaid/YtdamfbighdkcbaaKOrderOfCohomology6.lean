/- What the proof of the law OrderOfCohomology stands on, part 6: words, each Go function's Lean function, and that the Go code comes to its answers; no condition. (Packed by wip/myprint/pack.py out of what the kit's printer wrote, its words among it, partly by our patches of it, and out of texts of this session.) -/
import Derived.Test.YtdamfbighdkcbaaKOrderOfCohomology3
import Derived.Test.YtdamfbighdkcbaaKOrderOfCohomology4
import Derived.Test.YtdamfbighdkcbaaKOrderOfCohomology5
set_option linter.unusedVariables false
set_option linter.unusedSimpArgs false
set_option maxHeartbeats 4000000
set_option maxRecDepth 20000
namespace Go.Proofs.Ytdamfbighdkcbaa.V
open Go.RowKit Go.Proofs.Ytdamfbighdkcbaa.D Go.Proofs.Ytdamfbighdkcbaa.P
theorem indexFunc (v:List Int) (hl:v.length≤1000000):(Zb v.length v∧Zk.f v (fun z0=>(Z9.f z0).map fun z=>z)=some (-1)) ∨
  ∃j:Nat,j < v.length∧Zb j v∧¬ rd v (j:Int)=0∧Zk.f v (fun z0=>(Z9.f z0).map fun z=>z)=some (j:Int):=by
 rw[Zk.f_eq]
 obtain⟨F,hF⟩:∃F:Int→Option Bool,F=fun z0=>(Z9.f z0).map fun z=>z:=⟨_,rfl⟩
 rw[←hF]
 have hf:∀x,F x=some (!decide (x=0)):=fun x=>by rw[hF];show Option.map _ (Z9.f x)=_;rw[Z9.f_eq];rfl
 suffices H:∀d k:Nat,k+d=v.length→Zb k v→(Zb v.length v∧Zk.l0 v F (v.length:Int) (k:Int)=some (-1)) ∨
   ∃j:Nat,j < v.length∧Zb j v∧¬ rd v (j:Int)=0∧Zk.l0 v F (v.length:Int) (k:Int)=some (j:Int)from
  H v.length 0 (by omega) (fun i hi=>by omega)
 intro d
 induction d with
 | zero =>
  intro k hd hz
  obtain rfl:k=v.length:=by omega
  refine .inl ⟨hz,?_⟩
  (rw[Zk.l0_eq])
  ((with_reducible repeat (first|refine Zi (by first|assumption|omega|rfl|exact B_pos (by omega)) ?_|refine Zh (by first|assumption|omega|decide|exact B_not (by omega)) ?_|refine Zf (by first|assumption) ?_|dsimp only));first|done|(with_reducible rfl)|simp (disch:=omega) only[w64]|(show False;done))
 | succ d ih =>
  intro k hd hz
  have hfk:=hf (rd v (k:Int))
  by_cases h:rd v (k:Int)=0
  ·
   have st:Zk.l0 v F (v.length:Int) (k:Int)=Zk.l0 v F (v.length:Int) ((k+1:Nat):Int):=by
    rw[h]at hfk
    rw[Zk.l0_eq,wn (j:=k) (by omega),h]
    (with_reducible repeat (first|refine Zi (by first|assumption|omega|rfl|exact B_pos (by omega)) ?_|refine Zh (by first|assumption|omega|decide|exact B_not (by omega)) ?_|refine Zf (by first|assumption) ?_|dsimp only))
   rw[st]
   refine ih (k+1) (by omega) fun i hi => ?_
   by_cases e:i=k
   ·
    rw[e];exact h
   ·
    exact hz i (by omega)
  ·
   refine .inr ⟨k,by omega,hz,h,?_⟩
   rw[Zk.l0_eq]
   (with_reducible repeat (first|refine Zi (by first|assumption|omega|rfl|exact B_pos (by omega)) ?_|refine Zh (by first|assumption|omega|decide|exact B_not (by omega)) ?_|refine Zf (by first|assumption) ?_|dsimp only))
   rw[decide_eq_false h]
   rfl
theorem Zbj (n:Nat) (i:Int):rd (List.replicate n (0:Int)) i=0:=by
 simp only[rd,List.getD_eq_getElem?_getD,List.getElem?_replicate]
 split <;> rfl
theorem Zf5 {m:Int} (m0:0 < m) (n:Nat):AllIn m (List.replicate n (0:Int)):=fun i _ _=>by rw[Zbj];omega
theorem Zig {m a b c e:Int} (h:m∣1*a+(-e)*b - c):m∣1*c+e*b - a:=by
 obtain⟨q,hq⟩:=h
 refine⟨-q,?_⟩
 rw[Int.mul_neg,←hq,Int.neg_mul]
 omega
theorem Zf3 {d e:Int} (d0:0 < d):Int.tdiv (0 - d*e) d = -e:=by
 rw[show 0 - d*e=d*(-e)by rw[Int.mul_neg];omega]
 exact Int.mul_tdiv_cancel_left _ (by omega)
theorem Zem (st:List (List Int)) (v:List Int):row (st++[v]) (st.length:Int)=v:=by simp[row,List.getD_eq_getElem?_getD]
theorem ZdK (st:List (List Int)) (v:List Int):(st++[v]).take st.length=st:=by simp
theorem Zct {d e x:Int} (d0:0 < d) (h:x=d*e) (x0:0≤x) (x1:x≤12):0≤e∧e≤12:=by
 constructor
 ·
  by_cases q:0≤e
  ·
   exact q
  ·
   have:=Int.mul_le_mul_of_nonneg_left (show e ≤ -1 by omega) (Int.le_of_lt d0)
   omega
 ·
  by_cases q:e≤12
  ·
   exact q
  ·
   have h1:=Int.mul_le_mul_of_nonneg_right (show 1≤d by omega) (show 0≤e by omega)
   omega
theorem put_top {m:Int} (m2:2≤m) (m12:m≤12) {W:Nat} (hW:W≤100000) {M:Vc→Prop}:∀(n j:Nat) (v:List Int) (p st:List (List Int)),W≤j+n→Zb j v→Pst m W p (st++[v]) M→st.length≤1000000000 →
  (Zt.l0 m p (st++[v])=Zt.l0 m p st∧Pst m W p st M) ∨
  ∃p' ws,Zt.l0 m p (st++[v])=Zt.l0 m p' (st++ws)∧ws.length=3∧Pst m W p' (st++ws) M∧dsum m p' W < dsum m p W:=by
 intro n
 induction n with
 | zero =>
  intro j v p st hj hz h hst
  obtain⟨hvl,hva⟩:=h.inv.sts v (List.mem_append_right _ (List.mem_singleton.2 rfl))
  have e0:(st++[v]).length=st.length+1:=by simp
  have e1:wrapI (((st++[v]).length:Int) - 1)=(st.length:Int):=by rw[w64 (by omega) (by omega)];omega
  rcases indexFunc v (by omega)with ⟨hzz,hI⟩|⟨i,hi,hzi,hne,hI⟩
  ·
   rw[hvl]at hzz
   refine .inl ⟨?_,h.drop hzz⟩
   rw[Zt.l0_eq,e1,Zem,Int.toNat_natCast,ZdK]
   ((with_reducible repeat (first|refine Zi (by first|assumption|omega|rfl|exact B_pos (by omega)) ?_|refine Zh (by first|assumption|omega|decide|exact B_not (by omega)) ?_|refine Zf (by first|assumption) ?_|dsimp only));first|done|(with_reducible rfl)|simp (disch:=omega) only[w64]|(show False;done))
  ·
   exact absurd (hz i (by omega)) hne
 | succ n ih =>
  intro j v p st hj hz h hst
  obtain⟨hvl,hva⟩:=h.inv.sts v (List.mem_append_right _ (List.mem_singleton.2 rfl))
  have e0:(st++[v]).length=st.length+1:=by simp
  have e1:wrapI (((st++[v]).length:Int) - 1)=(st.length:Int):=by rw[w64 (by omega) (by omega)];omega
  rcases indexFunc v (by omega)with ⟨hzz,hI⟩|⟨i,hi,hzi,hne,hI⟩
  ·
   rw[hvl]at hzz
   refine .inl ⟨?_,h.drop hzz⟩
   rw[Zt.l0_eq,e1,Zem,Int.toNat_natCast,ZdK]
   ((with_reducible repeat (first|refine Zi (by first|assumption|omega|rfl|exact B_pos (by omega)) ?_|refine Zh (by first|assumption|omega|decide|exact B_not (by omega)) ?_|refine Zf (by first|assumption) ?_|dsimp only));first|done|(with_reducible rfl)|simp (disch:=omega) only[w64]|(show False;done))
  have hij:j≤i:=by
   by_cases q:j≤i
   ·
    exact q
   ·
    exact absurd (hz i (by omega)) hne
  have hpl:=h.inv.tab.len
  have hiW:i < W:=by omega
  obtain⟨v0,v1⟩:=hva i (by omega) (by omega)
  have swap:∀o:List Int,(row p (i:Int)=[]∧o=List.replicate v.length 0∨row p (i:Int)≠[]∧o=row p (i:Int))→(¬ rd o (i:Int)=0→¬ Int.tmod (rd v (i:Int)) (rd o (i:Int))=0) →
    ∃p' ws,Zt.j1 v i o m p st=Zt.l0 m p' (st++ws)∧ws.length=3∧Pst m W p' (st++ws) M∧dsum m p' W < dsum m p W:=by
   intro o ho hnd
   have ol:o.length=W:=by
    rcases ho with ⟨_,rfl⟩|⟨hr,rfl⟩
    ·
     rw[List.length_replicate];exact hvl
    ·
     exact(h.inv.tab.prow hiW hr).len
   have oa:AllIn m o:=by
    rcases ho with ⟨_,rfl⟩|⟨hr,rfl⟩
    ·
     exact Zf5 (by omega) _
    ·
     exact(h.inv.tab.prow hiW hr).ent
   have oz:Zb i o:=by
    rcases ho with ⟨_,rfl⟩|⟨hr,rfl⟩
    ·
     exact fun k _=>Zbj _ _
    ·
     exact(h.inv.tab.prow hiW hr).zero
   obtain⟨o0,o1⟩:=oa i (by omega) (by omega)
   obtain⟨x,y,hbz,hx,hy,hxy⟩:=bezout m2 m12 (p:=p) (a:=rd o (i:Int)) (b:=rd v (i:Int)) o0 (by omega) v0 (by omega)
   have dm:((Int.gcd ((Int.gcd (rd o (i:Int)) (rd v (i:Int)):Nat):Int) m:Nat):Int)∣m:=Int.gcd_dvd_right ..
   have dg:((Int.gcd ((Int.gcd (rd o (i:Int)) (rd v (i:Int)):Nat):Int) m:Nat):Int)∣((Int.gcd (rd o (i:Int)) (rd v (i:Int)):Nat):Int):=Int.gcd_dvd_left ..
   have dO:=Int.dvd_trans dg (Int.gcd_dvd_left (a:=rd o (i:Int)) (b:=rd v (i:Int)))
   have dV:=Int.dvd_trans dg (Int.gcd_dvd_right (a:=rd o (i:Int)) (b:=rd v (i:Int)))
   have d0:0 < ((Int.gcd ((Int.gcd (rd o (i:Int)) (rd v (i:Int)):Nat):Int) m:Nat):Int):=by
    have:0 < Int.gcd ((Int.gcd (rd o (i:Int)) (rd v (i:Int)):Nat):Int) m:=Int.gcd_pos_of_ne_zero_right _ (by omega)
    omega
   generalize ((Int.gcd ((Int.gcd (rd o (i:Int)) (rd v (i:Int)):Nat):Int) m:Nat):Int)=d at hbz hxy dm dO dV d0
   clear dg
   have dv1:d≤rd v (i:Int):=Int.le_of_dvd (by omega) dV
   obtain⟨eo,heo⟩:=dO
   obtain⟨ev,hev⟩:=dV
   obtain⟨eo0,eo1⟩:=Zct d0 heo o0 (by omega)
   obtain⟨ev0,ev1⟩:=Zct d0 hev v0 (by omega)
   obtain⟨md,hmd⟩:=dm
   obtain⟨md0,md1⟩:=Zct d0 hmd (by omega) m12
   have hmdd:Int.tdiv m d=md:=by rw[hmd];exact Int.mul_tdiv_cancel_left _ (by omega)
   have hmde:m / d=md:=by rw[hmd];exact Int.mul_ediv_cancel_left _ (by omega)
   have c1:=combined m2 m12 (p:=p) (x:=x) (y:=y) oa hva (by omega) (by omega) (by omega) (by omega) (by omega) (by omega)
   obtain⟨nx,hnx⟩:∃nx,nx=mix m x o y v:=⟨_,rfl⟩
   have nl:nx.length=W:=by rw[hnx,ZaS,ol]
   have na:AllIn m nx:=by rw[hnx];exact ZbR (by omega)
   have nz:Zb i nx:=fun k hk=>by
    rw[hnx,ZbE (by omega),oz k hk,hzi k hk];simp
   have nd:rd nx (i:Int)=d:=by
    rw[hnx,ZbE (by omega)]
    have:(x*rd o (i:Int)+y*rd v (i:Int))%m=d%m:=by
     obtain⟨q,hq⟩:=hxy
     rw[show x*rd o (i:Int)+y*rd v (i:Int)=d+m*q by omega,Int.add_mul_emod_self_left]
    rw[this,Int.emod_eq_of_lt (by omega) (by omega)]
   have nP:PRow m W i nx:=⟨nl,na,nz,by omega,by omega,by rw[nd];exact⟨md,hmd⟩⟩
   rw[←hnx]at c1
   have c2:=combined m2 m12 (p:=p.set i nx) (x:=1) (y := -eo) oa na (by omega) (by omega) (by omega) (by omega) (by omega) (by omega)
   have c3:=combined m2 m12 (p:=p.set i nx) (x:=1) (y := -ev) hva na (by omega) (by omega) (by omega) (by omega) (by omega) (by omega)
   have c4:=combined m2 m12 (p:=p.set i nx) (x:=md) (y:=0) na na rfl (by omega) (by omega) (by omega) (by omega) (by omega)
   have f1:wrapI ((wrapI (0 - rd o (i:Int))).tdiv d) = -eo:=by rw[w64 (x:=0 - rd o (i:Int)) (by omega) (by omega),heo,Zf3 d0,w64 (by omega) (by omega)]
   have f2:wrapI ((wrapI (0 - rd v (i:Int))).tdiv d) = -ev:=by rw[w64 (x:=0 - rd v (i:Int)) (by omega) (by omega),hev,Zf3 d0,w64 (by omega) (by omega)]
   have f3:wrapI (Int.tdiv m d)=md:=by rw[hmdd];exact w64 (by omega) (by omega)
   have l3:∀a b c:List Int,([a,b,c]:List (List Int)).length=3:=fun _ _ _=>rfl
   have hset:(p.set i nx).length=W:=by rw[List.length_set];exact hpl
   refine⟨p.set i nx,[mix m 1 o (-eo) nx,mix m 1 v (-ev) nx,mix m md nx 0 nx],?_,rfl,?_,?_⟩
   ·
    rw[Zt.j1_eq]
    by_cases q:rd o (i:Int)=0
    ·
     (with_reducible repeat (first|refine Zi (by first|assumption|omega|rfl|exact B_pos (by omega)) ?_|refine Zh (by first|assumption|omega|decide|exact B_not (by omega)) ?_|refine Zf (by first|assumption) ?_|dsimp only))
     rw[Int.toNat_natCast,f1]
     (with_reducible repeat (first|refine Zi (by first|assumption|omega|rfl|exact B_pos (by omega)) ?_|refine Zh (by first|assumption|omega|decide|exact B_not (by omega)) ?_|refine Zf (by first|assumption) ?_|dsimp only))
     rw[f2]
     (with_reducible repeat (first|refine Zi (by first|assumption|omega|rfl|exact B_pos (by omega)) ?_|refine Zh (by first|assumption|omega|decide|exact B_not (by omega)) ?_|refine Zf (by first|assumption) ?_|dsimp only))
     rw[f3]
     (with_reducible repeat (first|refine Zi (by first|assumption|omega|rfl|exact B_pos (by omega)) ?_|refine Zh (by first|assumption|omega|decide|exact B_not (by omega)) ?_|refine Zf (by first|assumption) ?_|dsimp only))
     rw[l3]
     (with_reducible repeat (first|refine Zi (by first|assumption|omega|rfl|exact B_pos (by omega)) ?_|refine Zh (by first|assumption|omega|decide|exact B_not (by omega)) ?_|refine Zf (by first|assumption) ?_|dsimp only))
    ·
     have q2:=hnd q
     (with_reducible repeat (first|refine Zi (by first|assumption|omega|rfl|exact B_pos (by omega)) ?_|refine Zh (by first|assumption|omega|decide|exact B_not (by omega)) ?_|refine Zf (by first|assumption) ?_|dsimp only))
     rw[Int.toNat_natCast,f1]
     (with_reducible repeat (first|refine Zi (by first|assumption|omega|rfl|exact B_pos (by omega)) ?_|refine Zh (by first|assumption|omega|decide|exact B_not (by omega)) ?_|refine Zf (by first|assumption) ?_|dsimp only))
     rw[f2]
     (with_reducible repeat (first|refine Zi (by first|assumption|omega|rfl|exact B_pos (by omega)) ?_|refine Zh (by first|assumption|omega|decide|exact B_not (by omega)) ?_|refine Zf (by first|assumption) ?_|dsimp only))
     rw[f3]
     (with_reducible repeat (first|refine Zi (by first|assumption|omega|rfl|exact B_pos (by omega)) ?_|refine Zh (by first|assumption|omega|decide|exact B_not (by omega)) ?_|refine Zf (by first|assumption) ?_|dsimp only))
     rw[l3]
     (with_reducible repeat (first|refine Zi (by first|assumption|omega|rfl|exact B_pos (by omega)) ?_|refine Zh (by first|assumption|omega|decide|exact B_not (by omega)) ?_|refine Zf (by first|assumption) ?_|dsimp only))
   ·
    have g0:∀k:Nat,k < W→m∣1*rd o (k:Int)+(-eo)*rd nx (k:Int) - rd (mix m 1 o (-eo) nx) (k:Int):=fun k hk=>Zbf (by omega)
    have g1:∀k:Nat,k < W→m∣1*rd v (k:Int)+(-ev)*rd nx (k:Int) - rd (mix m 1 v (-ev) nx) (k:Int):=fun k hk=>Zbf (by omega)
    have g2:∀k:Nat,k < W→m∣md*rd nx (k:Int)+0*rd nx (k:Int) - rd (mix m md nx 0 nx) (k:Int):=fun k hk=>Zbf (by omega)
    have zb:∀(a b:Int) (r:List Int),r.length=W→Zb i r→a*rd r (i:Int)+b*d=0∨a*rd r (i:Int)+b*d=m→Zb (i+1) (mix m a r b nx):=fun a b r hr hz hab k hk=>by
     rw[ZbE (by omega)]
     by_cases e:k=i
     ·
      subst e
      rw[nd]
      rcases hab with hab|hab <;> rw[hab]
      ·
       exact Int.zero_emod m
      ·
       exact Int.emod_self
     ·
      rw[hz k (by omega),nz k (by omega)];simp
    refine h.swap hiW hne nP (fun w hw => ?_) (fun hr => ?_) ?_ ?_ ?_
    ·
     simp only[List.mem_cons,List.not_mem_nil,or_false]at hw
     rcases hw with rfl|rfl|rfl
     ·
      exact⟨⟨by rw[ZaS];exact ol,ZbR (by omega)⟩,zb 1 (-eo) o ol oz (.inl (by rw[heo,Int.neg_mul,Int.mul_comm eo d];omega))⟩
     ·
      exact⟨⟨by rw[ZaS];exact hvl,ZbR (by omega)⟩,zb 1 (-ev) v hvl hzi (.inl (by rw[hev,Int.neg_mul,Int.mul_comm ev d];omega))⟩
     ·
      exact⟨⟨by rw[ZaS];exact nl,ZbR (by omega)⟩,zb md 0 nx nl nz (.inr (by rw[nd,hmd,Int.mul_comm md d];omega))⟩
    ·
     have ho' : o=row p (i:Int):=by
      rcases ho with ⟨e,_⟩|⟨_,e⟩
      ·
       exact absurd e hr
      ·
       exact e
     rw[←ho']
     exact Sp.two (a:=1) (b:=eo) (x:=V (mix m 1 o (-eo) nx)) (y:=V nx) (.gen (.inr ⟨_,List.mem_cons_self ..,rfl⟩)) (.gen (.inl rfl)) fun k hk=>Zig (g0 k hk)
    ·
     exact Sp.two (a:=1) (b:=ev) (x:=V (mix m 1 v (-ev) nx)) (y:=V nx) (.gen (.inr ⟨_,List.mem_cons_of_mem _ (List.mem_cons_self ..),rfl⟩)) (.gen (.inl rfl)) fun k hk=>Zig (g1 k hk)
    ·
     refine .alike (.gen ⟨_,List.mem_cons_of_mem _ (List.mem_cons_of_mem _ (List.mem_cons_self ..)),rfl⟩) fun k hk => ?_
     obtain⟨q,hq⟩:=g2 k hk
     refine⟨-q,?_⟩
     rw[nd,hmde,Int.mul_neg,←hq]
     show rd (mix m md nx 0 nx) (k:Int) - md*rd nx (k:Int)=_
     omega
    ·
     have hov:∀G:Vc→Prop,(row p (i:Int)≠[]→G (V (row p (i:Int))))→Sp m W G (V o):=fun G hG=>by
      rcases ho with ⟨_,rfl⟩|⟨hr,rfl⟩
      ·
       exact .alike .nil fun k hk=>by
        show m∣0 - rd (List.replicate v.length (0:Int)) (k:Int)
        rw[Zbj];exact⟨0,by omega⟩
      ·
       exact .gen (hG hr)
     have ho2:=hov (fun g=>g=V v∨(row p (i:Int)≠[]∧g=V (row p (i:Int)))) fun hr => .inr ⟨hr,rfl⟩
     have hn2:Sp m W (fun g=>g=V v∨(row p (i:Int)≠[]∧g=V (row p (i:Int)))) (V nx):=Sp.two (a:=x) (b:=y) (x:=V o) (y:=V v) ho2 (.gen (.inl rfl)) fun k hk=>by
      have:m∣x*rd o (k:Int)+y*rd v (k:Int) - rd (mix m x o y v) (k:Int):=Zbf (by omega)
      rwa[←hnx]at this
     intro g hg
     rcases hg with rfl|⟨w,hw,rfl⟩
     ·
      exact hn2
     simp only[List.mem_cons,List.not_mem_nil,or_false]at hw
     rcases hw with rfl|rfl|rfl
     ·
      exact Sp.two (a:=1) (b := -eo) ho2 hn2 fun k hk=>g0 k hk
     ·
      exact Sp.two (a:=1) (b := -ev) (x:=V v) (.gen (.inl rfl)) hn2 fun k hk=>g1 k hk
     ·
      exact Sp.two (a:=md) (b:=0) hn2 hn2 fun k hk=>g2 k hk
   ·
    rw[ZfA hpl hiW,if_pos hiW,Zdj hpl hiW nP.ne,nd]
    unfold dv
    rcases ho with ⟨e,_⟩|⟨hr,e⟩
    ·
     rw[if_pos e];omega
    ·
     rw[if_neg hr,←e]
     have hO:=(h.inv.tab.prow hiW hr).pos
     rw[←e]at hO
     have q2:=hnd (by omega)
     have:d≤rd o (i:Int):=Int.le_of_dvd hO ⟨eo,heo⟩
     by_cases q:d=rd o (i:Int)
     ·
      exact absurd (ZbT.2 ⟨ev,by rw[←q];exact hev⟩) q2
     ·
      omega
  have start:∀o:List Int,(row p (i:Int)=[]∧o=List.replicate v.length 0∨row p (i:Int)≠[]∧o=row p (i:Int))→Zt.l0 m p (st++[v])=Zt.j1 v i o m p st:=by
   intro o ho
   rw[Zt.l0_eq,e1,Zem,Int.toNat_natCast,ZdK,Int.toNat_natCast]
   rcases ho with ⟨e,rfl⟩|⟨hr,rfl⟩
   ·
    have e' : (row p (i:Int)).length=0:=by rw[e];rfl
    ((with_reducible repeat (first|refine Zi (by first|assumption|omega|rfl|exact B_pos (by omega)) ?_|refine Zh (by first|assumption|omega|decide|exact B_not (by omega)) ?_|refine Zf (by first|assumption) ?_|dsimp only));first|done|(with_reducible rfl)|simp (disch:=omega) only[w64]|(show False;done))
   ·
    have e' : 0 < (row p (i:Int)).length:=List.length_pos_iff.2 hr
    ((with_reducible repeat (first|refine Zi (by first|assumption|omega|rfl|exact B_pos (by omega)) ?_|refine Zh (by first|assumption|omega|decide|exact B_not (by omega)) ?_|refine Zf (by first|assumption) ?_|dsimp only));first|done|(with_reducible rfl)|simp (disch:=omega) only[w64]|(show False;done))
  by_cases hr:row p (i:Int)=[]
  ·
   have hs:=start _ (.inl ⟨hr,rfl⟩)
   obtain⟨p', ws,k1,k2,k3,k4⟩:=swap _ (.inl ⟨hr,rfl⟩) (fun q=>absurd (Zbj _ _) q)
   exact .inr ⟨p', ws,hs.trans k1,k2,k3,k4⟩
  have hs:=start _ (.inr ⟨hr,rfl⟩)
  by_cases hd:Int.tmod (rd v (i:Int)) (rd (row p (i:Int)) (i:Int))=0
  rotate_left
  ·
   obtain⟨p', ws,k1,k2,k3,k4⟩:=swap _ (.inr ⟨hr,rfl⟩) (fun _=>hd)
   exact .inr ⟨p', ws,hs.trans k1,k2,k3,k4⟩
  have hP:=h.inv.tab.prow hiW hr
  have pl:=hP.len
  have p0:=hP.pos
  have p1:=hP.lt
  obtain⟨e,he⟩:=ZbT.1 hd
  obtain⟨ee0,ee1⟩:=Zct p0 he v0 (by omega)
  have c1:=combined m2 m12 (p:=p) (x:=1) (y := -e) hva hP.ent (by omega) (by omega) (by omega) (by omega) (by omega) (by omega)
  have f1:wrapI ((wrapI (0 - rd v (i:Int))).tdiv (rd (row p (i:Int)) (i:Int))) = -e:=by rw[w64 (x:=0 - rd v (i:Int)) (by omega) (by omega),he,Zf3 p0,w64 (by omega) (by omega)]
  have hpne:¬ rd (row p (i:Int)) (i:Int)=0:=by omega
  have l1:∀a:List Int,([a]:List (List Int)).length=1:=fun _=>rfl
  have hstep:Zt.j1 v i (row p (i:Int)) m p st=Zt.l0 m p (st++[mix m 1 v (-e) (row p (i:Int))]):=by
   rw[Zt.j1_eq,f1]
   (with_reducible repeat (first|refine Zi (by first|assumption|omega|rfl|exact B_pos (by omega)) ?_|refine Zh (by first|assumption|omega|decide|exact B_not (by omega)) ?_|refine Zf (by first|assumption) ?_|dsimp only))
   rw[l1]
   ((with_reducible repeat (first|refine Zi (by first|assumption|omega|rfl|exact B_pos (by omega)) ?_|refine Zh (by first|assumption|omega|decide|exact B_not (by omega)) ?_|refine Zf (by first|assumption) ?_|dsimp only));first|done|(with_reducible rfl)|simp (disch:=omega) only[w64]|(show False;done))
  have wl:(mix m 1 v (-e) (row p (i:Int))).length=W:=by rw[ZaS];exact hvl
  have wz:Zb (i+1) (mix m 1 v (-e) (row p (i:Int))):=fun k hk=>by
   rw[ZbE (by omega)]
   by_cases q:k=i
   ·
    subst q
    rw[he,show 1*(rd (row p (k:Int)) (k:Int)*e) + -e*rd (row p (k:Int)) (k:Int)=0 by rw[Int.neg_mul,Int.mul_comm e];omega]
    exact Int.zero_emod m
   ·
    rw[hzi k (by omega),hP.zero k (by omega)];simp
  have h' := h.less (c:=e) hiW hr hne ⟨wl,ZbR (by omega)⟩ (fun k hk=>wz k (by omega)) fun k hk=>Zbf (by omega)
  rcases ih (i+1) _ p st (by omega) wz h' hst with ⟨k1,k2⟩|⟨p', ws,k1,k2,k3,k4⟩
  ·
   exact .inl ⟨(hs.trans hstep).trans k1,k2⟩
  ·
   exact .inr ⟨p', ws,(hs.trans hstep).trans k1,k2,k3,k4⟩
theorem put_ {m:Int} (m2:2≤m) (m12:m≤12) {W:Nat} (hW:W≤100000) {M:Vc→Prop} {p:List (List Int)} {r:List Int} (h:Pst m W p [r] M):∃p', Zt.f m p r=some (m,p')∧Pst m W p' [] M:=by
 rw[Zt.f_eq]
 have key:∀(D:Nat) (k:Nat) (p st:List (List Int)),st.length=k→dsum m p W≤D→(st.length:Int)+3*dsum m p W≤100000000→Pst m W p st M→∃p', Zt.l0 m p st=some (m,p')∧Pst m W p' [] M:=by
  intro D
  induction D with
  | zero =>
   intro k
   induction k with
   | zero =>
    intro p st hl _ _ h
    obtain rfl:=List.length_eq_zero_iff.1 hl
    refine⟨p,?_,h⟩
    rw[Zt.l0_eq]
    ((with_reducible repeat (first|refine Zi (by first|assumption|omega|rfl|exact B_pos (by omega)) ?_|refine Zh (by first|assumption|omega|decide|exact B_not (by omega)) ?_|refine Zf (by first|assumption) ?_|dsimp only));first|done|(with_reducible rfl)|simp (disch:=omega) only[w64]|(show False;done))
   | succ k ih =>
    intro p st hl hD hK h
    obtain⟨st', v,rfl⟩:∃st' v,st=st' ++ [v]:=⟨st.dropLast,st.getLast (fun e=>by rw[e]at hl;simp at hl),(List.dropLast_concat_getLast _).symm⟩
    have e0:(st' ++ [v]).length=st'.length+1:=by simp
    obtain⟨s0,_⟩:=Zcn (show 0 < m by omega) h.inv.tab W (Nat.le_refl _)
    rcases put_top m2 m12 hW W 0 v p st' (by omega) (fun i hi=>by omega) h (by omega)with ⟨k1,k2⟩|⟨p', ws,k1,k2,k3,k4⟩
    ·
     rw[k1]
     exact ih p st' (by omega) hD (by omega) k2
    ·
     obtain⟨s1,_⟩:=Zcn (show 0 < m by omega) k3.inv.tab W (Nat.le_refl _)
     omega
  | succ D ihD =>
   intro k
   induction k with
   | zero =>
    intro p st hl _ _ h
    obtain rfl:=List.length_eq_zero_iff.1 hl
    refine⟨p,?_,h⟩
    rw[Zt.l0_eq]
    ((with_reducible repeat (first|refine Zi (by first|assumption|omega|rfl|exact B_pos (by omega)) ?_|refine Zh (by first|assumption|omega|decide|exact B_not (by omega)) ?_|refine Zf (by first|assumption) ?_|dsimp only));first|done|(with_reducible rfl)|simp (disch:=omega) only[w64]|(show False;done))
   | succ k ih =>
    intro p st hl hD hK h
    obtain⟨st', v,rfl⟩:∃st' v,st=st' ++ [v]:=⟨st.dropLast,st.getLast (fun e=>by rw[e]at hl;simp at hl),(List.dropLast_concat_getLast _).symm⟩
    have e0:(st' ++ [v]).length=st'.length+1:=by simp
    obtain⟨s0,_⟩:=Zcn (show 0 < m by omega) h.inv.tab W (Nat.le_refl _)
    rcases put_top m2 m12 hW W 0 v p st' (by omega) (fun i hi=>by omega) h (by omega)with ⟨k1,k2⟩|⟨p', ws,k1,k2,k3,k4⟩
    ·
     rw[k1]
     exact ih p st' (by omega) hD (by omega) k2
    ·
     rw[k1]
     have e1:(st' ++ ws).length=st'.length+3:=by rw[List.length_append,k2]
     exact ihD _ p' (st' ++ ws) rfl (by omega) (by omega) k3
 obtain⟨s0,s1⟩:=Zcn (show 0 < m by omega) h.inv.tab W (Nat.le_refl _)
 have hb:m*(W:Int)≤12*100000:=Int.mul_le_mul (by omega) (by omega) (by omega) (by omega)
 exact key (dsum m p W).toNat 1 p [r] rfl (by omega) (by show(1:Int)+_≤_;omega) h
end Go.Proofs.Ytdamfbighdkcbaa.V
namespace Go.Proofs.Ytdamfbighdkcbaa.V
open Go.RowKit Go.Proofs.Ytdamfbighdkcbaa.D Go.Proofs.Ytdamfbighdkcbaa.P
theorem ZlQ {m:Int} (m2:2≤m) (m12:m≤12) {W:Nat} (hW:W≤100000) {M:Vc→Prop}:∀(n j:Nat) (v:List Int) (p st:List (List Int)),j+n=W→Zb j v→Pst m W p (st++[v]) M→(st.length:Int)+dsum m p W≤1000000000 →
  ∃p' ws,Zu.l1 m v j p st=Zu.l0 m p' (st++ws)∧Pst m W p' (st++ws) M∧(p' = p∧ws=[]∨dsum m p' W < dsum m p W)∧(ws.length:Int)+dsum m p' W≤dsum m p W:=by
 intro n
 induction n with
 | zero =>
  intro j v p st hj hz h hst
  obtain⟨hvl,hva⟩:=h.inv.sts v (List.mem_append_right _ (List.mem_singleton.2 rfl))
  refine⟨p,[],?_,?_,.inl ⟨rfl,rfl⟩,by simp⟩
  ·
   rw[Zu.l1_eq,List.append_nil]
   ((with_reducible repeat (first|refine Zi (by first|assumption|omega|rfl|exact B_pos (by omega)) ?_|refine Zh (by first|assumption|omega|decide|exact B_not (by omega)) ?_|refine Zf (by first|assumption) ?_|dsimp only));first|done|(with_reducible rfl)|simp (disch:=omega) only[w64]|(show False;done))
  ·
   rw[List.append_nil]
   obtain rfl:j=W:=by omega
   exact h.drop hz
 | succ n ih =>
  intro j v p st hj hz h hst
  obtain⟨hvl,hva⟩:=h.inv.sts v (List.mem_append_right _ (List.mem_singleton.2 rfl))
  have hpl:=h.inv.tab.len
  have hjW:j < W:=by omega
  obtain⟨v0,v1⟩:=hva j (by omega) (by omega)
  obtain⟨s0,s1⟩:=Zcn (show 0 < m by omega) h.inv.tab W (Nat.le_refl _)
  by_cases hne:rd v (j:Int)=0
  ·
   obtain⟨p', ws,k1,k2,k3,k4⟩:=ih (j+1) v p st (by omega) (fun i hi=>by
    by_cases e:i=j
    ·
     rw[e];exact hne
    ·
     exact hz i (by omega)) h hst
   refine⟨p', ws,?_,k2,k3,k4⟩
   rw[←k1,Zu.l1_eq,wn (j:=j) (by omega)]
   ((with_reducible repeat (first|refine Zi (by first|assumption|omega|rfl|exact B_pos (by omega)) ?_|refine Zh (by first|assumption|omega|decide|exact B_not (by omega)) ?_|refine Zf (by first|assumption) ?_|dsimp only));first|done|(with_reducible rfl)|simp (disch:=omega) only[w64]|(show False;done))
  have l1:∀a:List Int,([a]:List (List Int)).length=1:=fun _=>rfl
  by_cases hr:row p (j:Int)=[]
  ·
   have e' : ((row p (j:Int)).length:Int)=0:=by rw[hr];rfl
   obtain⟨u,hu,hug,hud,hU⟩:=Unit_ m2 m12 hva (by omega) (by omega) hne
   obtain⟨ui,hui⟩:=ZiE m2 m12 (by omega) hu.2 hug
   have dm:((Int.gcd (rd v (j:Int)) m:Nat):Int)∣m:=Int.gcd_dvd_right ..
   have dV:((Int.gcd (rd v (j:Int)) m:Nat):Int)∣rd v (j:Int):=Int.gcd_dvd_left ..
   have d0:0 < ((Int.gcd (rd v (j:Int)) m:Nat):Int):=by
    have:0 < Int.gcd (rd v (j:Int)) m:=Int.gcd_pos_of_ne_zero_left _ hne
    omega
   generalize ((Int.gcd (rd v (j:Int)) m:Nat):Int)=d at hud dm dV d0
   have dv1:d≤rd v (j:Int):=Int.le_of_dvd (by omega) dV
   obtain⟨md,hmd⟩:=dm
   obtain⟨md0,md1⟩:=Zct d0 hmd (by omega) m12
   have hmde:m / d=md:=by rw[hmd];exact Int.mul_ediv_cancel_left _ (by omega)
   obtain⟨nx,hnx⟩:∃nx,nx=mix m u v 0 v:=⟨_,rfl⟩
   have nl:nx.length=W:=by rw[hnx,ZaS,hvl]
   have na:AllIn m nx:=by rw[hnx];exact ZbR (by omega)
   have nz:Zb j nx:=fun k hk=>by
    rw[hnx,ZbE (by omega),hz k hk];simp
   have nd:rd nx (j:Int)=d:=by
    rw[hnx,ZbE (by omega)]
    have:(u*rd v (j:Int)+0*rd v (j:Int))%m=d%m:=by
     obtain⟨q,hq⟩:=hud
     rw[show u*rd v (j:Int)+0*rd v (j:Int)=d+m*q by omega,Int.add_mul_emod_self_left]
    rw[this,Int.emod_eq_of_lt (by omega) (by omega)]
   have nP:PRow m W j nx:=⟨nl,na,nz,by omega,by omega,by rw[nd];exact⟨md,hmd⟩⟩
   rw[←hnx]at hU
   have hsame:row (p.set j nx) (j:Int)=nx:=ZaN (by omega)
   have hT:T (p.set j nx) (j:Int) (j:Int)=d:=by show rd (row (p.set j nx) (j:Int)) (j:Int)=d;rw[hsame];exact nd
   have hset:(p.set j nx).length=W:=by rw[List.length_set];exact hpl
   have f3:wrapI (Int.tdiv m d)=md:=by rw[hmd,Int.mul_tdiv_cancel_left _ (by omega)];exact w64 (by omega) (by omega)
   have c4:=Mix_ m2 m12 (x:=md) (y:=0) na hva (by omega) (by omega) (by omega) (by omega) (by omega) (by omega)
   have g0:∀k:Nat,k < W→m∣u*rd v (k:Int)+0*rd v (k:Int) - rd nx (k:Int):=fun k hk=>by rw[hnx];exact Zbf (by omega)
   have g2:∀k:Nat,k < W→m∣md*rd nx (k:Int)+0*rd v (k:Int) - rd (mix m md nx 0 v) (k:Int):=fun k hk=>Zbf (by omega)
   have wz:Zb (j+1) (mix m md nx 0 v):=fun k hk=>by
    rw[ZbE (by omega)]
    by_cases e:k=j
    ·
     subst e
     rw[nd,show md*d+0*rd v (k:Int)=m by rw[hmd,Int.mul_comm md d];omega]
     exact Int.emod_self
    ·
     rw[nz k (by omega)];simp
   have hdm:dsum m (p.set j nx) W+1≤dsum m p W:=by
    rw[ZfA hpl hjW,if_pos hjW,Zdj hpl hjW nP.ne,nd]
    unfold dv
    rw[if_pos hr];omega
   refine⟨p.set j nx,[mix m md nx 0 v],?_,?_,.inr (by omega),by rw[l1];omega⟩
   ·
    rw[Zu.l1_eq,Int.toNat_natCast]
    (with_reducible repeat (first|refine Zi (by first|assumption|omega|rfl|exact B_pos (by omega)) ?_|refine Zh (by first|assumption|omega|decide|exact B_not (by omega)) ?_|refine Zf (by first|assumption) ?_|dsimp only))
    rw[hT]
    (with_reducible repeat (first|refine Zi (by first|assumption|omega|rfl|exact B_pos (by omega)) ?_|refine Zh (by first|assumption|omega|decide|exact B_not (by omega)) ?_|refine Zf (by first|assumption) ?_|dsimp only))
    rw[hsame,f3]
    (with_reducible repeat (first|refine Zi (by first|assumption|omega|rfl|exact B_pos (by omega)) ?_|refine Zh (by first|assumption|omega|decide|exact B_not (by omega)) ?_|refine Zf (by first|assumption) ?_|dsimp only))
    rw[l1]
    ((with_reducible repeat (first|refine Zi (by first|assumption|omega|rfl|exact B_pos (by omega)) ?_|refine Zh (by first|assumption|omega|decide|exact B_not (by omega)) ?_|refine Zf (by first|assumption) ?_|dsimp only));first|done|(with_reducible rfl)|simp (disch:=omega) only[w64]|(show False;done))
   ·
    refine h.swap hjW hne nP (fun w hw => ?_) (fun q=>absurd hr q) ?_ ?_ ?_
    ·
     rw[List.mem_singleton]at hw
     subst hw
     exact⟨⟨by rw[ZaS];exact nl,ZbR (by omega)⟩,wz⟩
    ·
     refine Sp.two (a:=ui) (b:=0) (x:=V nx) (y:=V nx) (.gen (.inl rfl)) (.gen (.inl rfl)) fun k hk => ?_
     obtain⟨q,hq⟩:=g0 k hk
     obtain⟨t,ht⟩:=hui
     refine⟨t*rd v (k:Int) - ui*q,?_⟩
     show ui*rd nx (k:Int)+0*rd nx (k:Int) - rd v (k:Int)=_
     have e1:rd nx (k:Int)=u*rd v (k:Int) - m*q:=by omega
     have e2:ui*(u*rd v (k:Int))=m*(t*rd v (k:Int))+rd v (k:Int):=by
      rw[←Int.mul_assoc,Int.mul_comm ui u,show u*ui=m*t+1 by omega,Int.add_mul,Int.mul_assoc];omega
     have e3:ui*(m*q)=m*(ui*q):=by rw[←Int.mul_assoc,Int.mul_comm ui m,Int.mul_assoc]
     rw[e1,Int.zero_mul,Int.mul_sub,Int.mul_sub,e2,e3]
     omega
    ·
     refine .alike (.gen ⟨_,List.mem_singleton.2 rfl,rfl⟩) fun k hk => ?_
     obtain⟨q,hq⟩:=g2 k hk
     refine⟨-q,?_⟩
     rw[nd,hmde,Int.mul_neg,←hq]
     show rd (mix m md nx 0 v) (k:Int) - md*rd nx (k:Int)=_
     omega
    ·
     have hn2:Sp m W (fun g=>g=V v∨(row p (j:Int)≠[]∧g=V (row p (j:Int)))) (V nx):=Sp.two (a:=u) (b:=0) (x:=V v) (y:=V v) (.gen (.inl rfl)) (.gen (.inl rfl)) fun k hk=>g0 k hk
     intro g hg
     rcases hg with rfl|⟨w,hw,rfl⟩
     ·
      exact hn2
     rw[List.mem_singleton]at hw
     subst hw
     exact Sp.two (a:=md) (b:=0) (x:=V nx) (y:=V v) hn2 (.gen (.inl rfl)) fun k hk=>g2 k hk
  have e' : ¬ ((row p (j:Int)).length:Int)=0:=by have:=List.length_pos_iff.2 hr;omega
  have hP:=h.inv.tab.prow hjW hr
  have pl:=hP.len
  have p0:=hP.pos
  have p1:=hP.lt
  have hT:T p (j:Int) (j:Int)=rd (row p (j:Int)) (j:Int):=rfl
  have hpne:¬ rd (row p (j:Int)) (j:Int)=0:=by omega
  by_cases hd:Int.tmod (rd v (j:Int)) (rd (row p (j:Int)) (j:Int))=0
  ·
   obtain⟨e,he⟩:=ZbT.1 hd
   obtain⟨ee0,ee1⟩:=Zct p0 he v0 (by omega)
   have c1:=Mix_ m2 m12 (x:=1) (y := -e) hva hP.ent (by omega) (by omega) (by omega) (by omega) (by omega) (by omega)
   have f1:wrapI (0 - wrapI ((rd v (j:Int)).tdiv (rd (row p (j:Int)) (j:Int)))) = -e:=by
    rw[he,Int.mul_tdiv_cancel_left _ (by omega),w64 (x:=e) (by omega) (by omega),w64 (by omega) (by omega)];omega
   have wl:(mix m 1 v (-e) (row p (j:Int))).length=W:=by rw[ZaS];exact hvl
   have wz:Zb (j+1) (mix m 1 v (-e) (row p (j:Int))):=fun k hk=>by
    rw[ZbE (by omega)]
    by_cases q:k=j
    ·
     subst q
     rw[he,show 1*(rd (row p (k:Int)) (k:Int)*e) + -e*rd (row p (k:Int)) (k:Int)=0 by rw[Int.neg_mul,Int.mul_comm e];omega]
     exact Int.zero_emod m
    ·
     rw[hz k (by omega),hP.zero k (by omega)];simp
   have h' := h.less (c:=e) hjW hr hne ⟨wl,ZbR (by omega)⟩ (fun k hk=>wz k (by omega)) fun k hk=>Zbf (by omega)
   obtain⟨p', ws,k1,k2,k3,k4⟩:=ih (j+1) _ p st (by omega) wz h' hst
   refine⟨p', ws,?_,k2,k3,k4⟩
   rw[←k1,Zu.l1_eq,wn (j:=j) (by omega),hT,f1]
   ((with_reducible repeat (first|refine Zi (by first|assumption|omega|rfl|exact B_pos (by omega)) ?_|refine Zh (by first|assumption|omega|decide|exact B_not (by omega)) ?_|refine Zf (by first|assumption) ?_|dsimp only));first|done|(with_reducible rfl)|simp (disch:=omega) only[w64]|(show False;done))
  obtain⟨o,ho⟩:∃o,o=row p (j:Int):=⟨_,rfl⟩
  obtain⟨s,t,hbz,hst', hs,ht⟩:=ZgX (a:=rd o (j:Int)) (b:=rd v (j:Int)) (by rw[ho];omega) (by rw[ho];omega) v0 (by omega)
  have dO:((Int.gcd (rd o (j:Int)) (rd v (j:Int)):Nat):Int)∣rd o (j:Int):=Int.gcd_dvd_left ..
  have dV:((Int.gcd (rd o (j:Int)) (rd v (j:Int)):Nat):Int)∣rd v (j:Int):=Int.gcd_dvd_right ..
  have d0:0 < ((Int.gcd (rd o (j:Int)) (rd v (j:Int)):Nat):Int):=by
   have:0 < Int.gcd (rd o (j:Int)) (rd v (j:Int)):=Int.gcd_pos_of_ne_zero_right _ hne
   omega
  generalize ((Int.gcd (rd o (j:Int)) (rd v (j:Int)):Nat):Int)=d at hbz hst' dO dV d0
  rw[←ho]at hP pl p0 p1 hT hpne hd
  have dv1:d≤rd v (j:Int):=Int.le_of_dvd (by omega) dV
  have dm:d∣m:=Int.dvd_trans dO hP.dvd
  obtain⟨eo,heo⟩:=dO
  obtain⟨ev,hev⟩:=dV
  obtain⟨eo0,eo1⟩:=Zct d0 heo (by omega) (by omega)
  obtain⟨ev0,ev1⟩:=Zct d0 hev v0 (by omega)
  obtain⟨md,hmd⟩:=dm
  obtain⟨md0,md1⟩:=Zct d0 hmd (by omega) m12
  have hmde:m / d=md:=by rw[hmd];exact Int.mul_ediv_cancel_left _ (by omega)
  have hunit:s*eo+t*ev=1:=by
   have h1:d*(s*eo+t*ev)=d*1:=by
    rw[Int.mul_add,Int.mul_one,←Int.mul_assoc,←Int.mul_assoc,Int.mul_comm d s,Int.mul_comm d t,Int.mul_assoc,Int.mul_assoc,←heo,←hev];exact hst'
   exact Int.eq_of_mul_eq_mul_left (by omega) h1
  obtain⟨nx,hnx⟩:∃nx,nx=mix m s o t v:=⟨_,rfl⟩
  obtain⟨ny,hny⟩:∃ny,ny=mix m ev o (-eo) v:=⟨_,rfl⟩
  have oz:Zb j o:=hP.zero
  have c1:=Mix_ m2 m12 (x:=ev) (y := -eo) hP.ent hva (by omega) (by omega) (by omega) (by omega) (by omega) (by omega)
  have c2:=Mix_ m2 m12 (x:=s) (y:=t) hP.ent hva (by omega) (by omega) hs.1 hs.2 ht.1 ht.2
  rw[←hny]at c1
  rw[←hnx]at c2
  have nl:nx.length=W:=by rw[hnx,ZaS,pl]
  have yl:ny.length=W:=by rw[hny,ZaS,pl]
  have na:AllIn m nx:=by rw[hnx];exact ZbR (by omega)
  have ya:AllIn m ny:=by rw[hny];exact ZbR (by omega)
  have nz:Zb j nx:=fun k hk=>by
   rw[hnx,ZbE (by omega),oz k hk,hz k hk];simp
  have nd:rd nx (j:Int)=d:=by
   rw[hnx,ZbE (by omega),hst', Int.emod_eq_of_lt (by omega) (by omega)]
  have yz:Zb (j+1) ny:=fun k hk=>by
   rw[hny,ZbE (by omega)]
   by_cases q:k=j
   ·
    subst q
    rw[heo,hev,show ev*(d*eo) + -eo*(d*ev)=0 by rw[Int.neg_mul,←Int.mul_assoc,←Int.mul_assoc,Int.mul_comm ev d,Int.mul_comm eo d,Int.mul_assoc,Int.mul_assoc,Int.mul_comm ev eo];omega]
    exact Int.zero_emod m
   ·
    rw[hz k (by omega),oz k (by omega)];simp
  have nP:PRow m W j nx:=⟨nl,na,nz,by omega,by omega,by rw[nd];exact⟨md,hmd⟩⟩
  have hsame:row (p.set j nx) (j:Int)=nx:=ZaN (by omega)
  have hset:(p.set j nx).length=W:=by rw[List.length_set];exact hpl
  have c4:=Mix_ m2 m12 (x:=md) (y:=0) na hva (by omega) (by omega) (by omega) (by omega) (by omega) (by omega)
  have f1:wrapI ((rd v (j:Int)).tdiv d)=ev:=by rw[hev,Int.mul_tdiv_cancel_left _ (by omega)];exact w64 (by omega) (by omega)
  have f2:wrapI (0 - wrapI ((rd o (j:Int)).tdiv d)) = -eo:=by rw[heo,Int.mul_tdiv_cancel_left _ (by omega),w64 (x:=eo) (by omega) (by omega),w64 (by omega) (by omega)];omega
  have f3:wrapI (Int.tdiv m d)=md:=by rw[hmd,Int.mul_tdiv_cancel_left _ (by omega)];exact w64 (by omega) (by omega)
  obtain⟨nw,hnw⟩:∃nw,nw=mix m md nx 0 v:=⟨_,rfl⟩
  have wl:nw.length=W:=by rw[hnw,ZaS,nl]
  have wa:AllIn m nw:=by rw[hnw];exact ZbR (by omega)
  have wz:Zb (j+1) nw:=fun k hk=>by
   rw[hnw,ZbE (by omega)]
   by_cases e:k=j
   ·
    subst e
    rw[nd,show md*d+0*rd v (k:Int)=m by rw[hmd,Int.mul_comm md d];omega]
    exact Int.emod_self
   ·
    rw[nz k (by omega)];simp
  rw[←hnw]at c4
  have g0:∀k:Nat,k < W→m∣s*rd o (k:Int)+t*rd v (k:Int) - rd nx (k:Int):=fun k hk=>by rw[hnx];exact Zbf (by omega)
  have g1:∀k:Nat,k < W→m∣ev*rd o (k:Int)+(-eo)*rd v (k:Int) - rd ny (k:Int):=fun k hk=>by rw[hny];exact Zbf (by omega)
  have g2:∀k:Nat,k < W→m∣md*rd nx (k:Int)+0*rd v (k:Int) - rd nw (k:Int):=fun k hk=>by rw[hnw];exact Zbf (by omega)
  have hdm:dsum m (p.set j nx) W+1≤dsum m p W:=by
   rw[ZfA hpl hjW,if_pos hjW,Zdj hpl hjW nP.ne,nd]
   unfold dv
   rw[if_neg hr,←ho]
   have:d≤rd o (j:Int):=Int.le_of_dvd p0 ⟨eo,heo⟩
   by_cases q:d=rd o (j:Int)
   ·
    exact absurd (ZbT.2 ⟨ev,by rw[←q];exact hev⟩) hd
   ·
    omega
  have hsw:Pst m W (p.set j nx) (st++[nw,ny]) M:=by
   refine h.swap hjW hne nP (fun w hw => ?_) (fun q => ?_) ?_ ?_ ?_
   ·
    simp only[List.mem_cons,List.not_mem_nil,or_false]at hw
    rcases hw with rfl|rfl
    ·
     exact⟨⟨wl,wa⟩,wz⟩
    ·
     exact⟨⟨yl,ya⟩,yz⟩
   ·
    rw[←ho]
    refine Sp.two (a:=eo) (b:=t) (x:=V nx) (y:=V ny) (.gen (.inl rfl)) (.gen (.inr ⟨_,List.mem_cons_of_mem _ (List.mem_cons_self ..),rfl⟩)) fun k hk => ?_
    obtain⟨q0,h0⟩:=g0 k hk
    obtain⟨q1,h1⟩:=g1 k hk
    refine⟨-(eo*q0) - t*q1,?_⟩
    show eo*rd nx (k:Int)+t*rd ny (k:Int) - rd o (k:Int)=_
    have e0:rd nx (k:Int)=s*rd o (k:Int)+t*rd v (k:Int) - m*q0:=by omega
    have e1:rd ny (k:Int)=ev*rd o (k:Int)+(-eo)*rd v (k:Int) - m*q1:=by omega
    rw[e0,e1]
    have e2:rd o (k:Int)=(s*eo+t*ev)*rd o (k:Int):=by rw[hunit];omega
    generalize rd o (k:Int)=A at e2 ⊢
    generalize rd v (k:Int)=C
    have e3:eo*(s*A+t*C - m*q0)+t*(ev*A + -eo*C - m*q1) - A=(s*eo+t*ev)*A - A+m*(-(eo*q0) - t*q1):=by
     simp only[Int.mul_sub,Int.mul_add,Int.add_mul,Int.neg_mul,Int.mul_neg,←Int.mul_assoc]
     rw[Int.mul_comm eo s,Int.mul_comm eo t,Int.mul_comm eo m,Int.mul_comm t m]
     omega
    rw[e3,←e2];omega
   ·
    refine Sp.two (a:=ev) (b := -s) (x:=V nx) (y:=V ny) (.gen (.inl rfl)) (.gen (.inr ⟨_,List.mem_cons_of_mem _ (List.mem_cons_self ..),rfl⟩)) fun k hk => ?_
    obtain⟨q0,h0⟩:=g0 k hk
    obtain⟨q1,h1⟩:=g1 k hk
    refine⟨-(ev*q0)+s*q1,?_⟩
    show ev*rd nx (k:Int) + -s*rd ny (k:Int) - rd v (k:Int)=_
    have e0:rd nx (k:Int)=s*rd o (k:Int)+t*rd v (k:Int) - m*q0:=by omega
    have e1:rd ny (k:Int)=ev*rd o (k:Int)+(-eo)*rd v (k:Int) - m*q1:=by omega
    rw[e0,e1]
    have e2:rd v (k:Int)=(s*eo+t*ev)*rd v (k:Int):=by rw[hunit];omega
    generalize rd v (k:Int)=C at e2 ⊢
    generalize rd o (k:Int)=A
    have e3:ev*(s*A+t*C - m*q0) + -s*(ev*A + -eo*C - m*q1) - C=(s*eo+t*ev)*C - C+m*(-(ev*q0)+s*q1):=by
     simp only[Int.mul_sub,Int.mul_add,Int.add_mul,Int.neg_mul,Int.mul_neg,←Int.mul_assoc]
     rw[Int.mul_comm ev s,Int.mul_comm ev t,Int.mul_comm ev m,Int.mul_comm s m]
     omega
    rw[e3,←e2];omega
   ·
    refine .alike (.gen ⟨_,List.mem_cons_self ..,rfl⟩) fun k hk => ?_
    obtain⟨q,hq⟩:=g2 k hk
    refine⟨-q,?_⟩
    rw[nd,hmde,Int.mul_neg,←hq]
    show rd nw (k:Int) - md*rd nx (k:Int)=_
    omega
   ·
    rw[←ho]
    have hO:Sp m W (fun g=>g=V v∨(o≠[]∧g=V o)) (V o) := .gen (.inr ⟨hP.ne,rfl⟩)
    have hn2:Sp m W (fun g=>g=V v∨(o≠[]∧g=V o)) (V nx):=Sp.two (a:=s) (b:=t) (x:=V o) (y:=V v) hO (.gen (.inl rfl)) fun k hk=>g0 k hk
    intro g hg
    rcases hg with rfl|⟨w,hw,rfl⟩
    ·
     exact hn2
    simp only[List.mem_cons,List.not_mem_nil,or_false]at hw
    rcases hw with rfl|rfl
    ·
     exact Sp.two (a:=md) (b:=0) (x:=V nx) (y:=V v) hn2 (.gen (.inl rfl)) fun k hk=>g2 k hk
    ·
     exact Sp.two (a:=ev) (b := -eo) (x:=V o) (y:=V v) hO (.gen (.inl rfl)) fun k hk=>g1 k hk
  rw[show st++[nw,ny]=(st++[nw])++[ny]by simp]at hsw
  have sl:(st++[nw]).length=st.length+1:=by simp
  obtain⟨p', ws,k1,k2,k3,k4⟩:=ih (j+1) ny (p.set j nx) (st++[nw]) (by omega) yz hsw (by omega)
  refine⟨p', nw :: ws,?_,by rw[show st++nw :: ws=(st++[nw])++ws by simp];exact k2,.inr ?_,by rw[List.length_cons];omega⟩
  ·
   rw[show st++nw :: ws=(st++[nw])++ws by simp,←k1,Zu.l1_eq,wn (j:=j) (by omega),hT,Int.toNat_natCast]
   rw[←ho]at e' ⊢
   (with_reducible repeat (first|refine Zi (by first|assumption|omega|rfl|exact B_pos (by omega)) ?_|refine Zh (by first|assumption|omega|decide|exact B_not (by omega)) ?_|refine Zf (by first|assumption) ?_|dsimp only))
   rw[f1,f2]
   (with_reducible repeat (first|refine Zi (by first|assumption|omega|rfl|exact B_pos (by omega)) ?_|refine Zh (by first|assumption|omega|decide|exact B_not (by omega)) ?_|refine Zf (by first|assumption) ?_|dsimp only))
   rw[hsame,f3]
   (with_reducible repeat (first|refine Zi (by first|assumption|omega|rfl|exact B_pos (by omega)) ?_|refine Zh (by first|assumption|omega|decide|exact B_not (by omega)) ?_|refine Zf (by first|assumption) ?_|dsimp only))
   rw[l1]
   ((with_reducible repeat (first|refine Zi (by first|assumption|omega|rfl|exact B_pos (by omega)) ?_|refine Zh (by first|assumption|omega|decide|exact B_not (by omega)) ?_|refine Zf (by first|assumption) ?_|dsimp only));first|done|(with_reducible rfl)|simp (disch:=omega) only[w64]|(show False;done))
  ·
   omega
theorem ZlA {m:Int} (m2:2≤m) (m12:m≤12) {W:Nat} (hW:W≤100000) {M:Vc→Prop} {p:List (List Int)} {r:List Int} (h:Pst m W p [r] M):∃p', Zu.f p r m=some p' ∧ Pst m W p' [] M:=by
 rw[Zu.f_eq]
 have key:∀(D:Nat) (k:Nat) (p st:List (List Int)),st.length=k→dsum m p W≤D→(st.length:Int)+dsum m p W≤100000000→Pst m W p st M→∃p', Zu.l0 m p st=some p' ∧ Pst m W p' [] M:=by
  intro D
  induction D using Nat.strongRecOn with
  | _ D ihD =>
   intro k
   induction k with
   | zero =>
    intro p st hl _ _ h
    obtain rfl:=List.length_eq_zero_iff.1 hl
    refine⟨p,?_,h⟩
    rw[Zu.l0_eq]
    ((with_reducible repeat (first|refine Zi (by first|assumption|omega|rfl|exact B_pos (by omega)) ?_|refine Zh (by first|assumption|omega|decide|exact B_not (by omega)) ?_|refine Zf (by first|assumption) ?_|dsimp only));first|done|(with_reducible rfl)|simp (disch:=omega) only[w64]|(show False;done))
   | succ k ih =>
    intro p st hl hD hK h
    obtain⟨st', v,rfl⟩:∃st' v,st=st' ++ [v]:=⟨st.dropLast,st.getLast (fun e=>by rw[e]at hl;simp at hl),(List.dropLast_concat_getLast _).symm⟩
    have e0:(st' ++ [v]).length=st'.length+1:=by simp
    have e1:wrapI (((st' ++ [v]).length:Int) - 1)=(st'.length:Int):=by
     obtain⟨s0,_⟩:=Zcn (show 0 < m by omega) h.inv.tab W (Nat.le_refl _)
     rw[w64 (by omega) (by omega)];omega
    obtain⟨s0,_⟩:=Zcn (show 0 < m by omega) h.inv.tab W (Nat.le_refl _)
    have st1:Zu.l0 m p (st' ++ [v])=Zu.l1 m v 0 p st' := by
     rw[Zu.l0_eq,e1,Zem,Int.toNat_natCast,ZdK]
     ((with_reducible repeat (first|refine Zi (by first|assumption|omega|rfl|exact B_pos (by omega)) ?_|refine Zh (by first|assumption|omega|decide|exact B_not (by omega)) ?_|refine Zf (by first|assumption) ?_|dsimp only));first|done|(with_reducible rfl)|simp (disch:=omega) only[w64]|(show False;done))
    obtain⟨p', ws,k1,k2,k3,k4⟩:=ZlQ m2 m12 hW W 0 v p st' (by omega) (fun i hi=>by omega) h (by omega)
    rw[st1,show(0:Int)=((0:Nat):Int)from rfl,k1]
    rcases k3 with ⟨rfl,rfl⟩|k3
    ·
     rw[List.append_nil]at k2 ⊢
     exact ih p' st' (by omega) hD (by omega) k2
    ·
     obtain⟨s1,_⟩:=Zcn (show 0 < m by omega) k2.inv.tab W (Nat.le_refl _)
     have e2:(st' ++ ws).length=st'.length+ws.length:=List.length_append
     exact ihD (dsum m p' W).toNat (by omega) _ p' (st' ++ ws) rfl (by omega) (by omega) k2
 obtain⟨s0,s1⟩:=Zcn (show 0 < m by omega) h.inv.tab W (Nat.le_refl _)
 have hb:m*(W:Int)≤12*100000:=Int.mul_le_mul (by omega) (by omega) (by omega) (by omega)
 exact key (dsum m p W).toNat 1 p [r] rfl (by omega) (by show(1:Int)+_≤_;omega) h
end Go.Proofs.Ytdamfbighdkcbaa.V
namespace Go.Proofs.Ytdamfbighdkcbaa.V
open Go.RowKit Go.Proofs.Ytdamfbighdkcbaa.D Go.Proofs.Ytdamfbighdkcbaa.P
section
variable {m:Int} {W:Nat} {p:List (List Int)} {M:Vc→Prop} {G G' : Vc→Prop}
theorem Pst.lead (m0:0 < m) (h:Pst m W p [] M):Lead m W p M:=by
 have e:∀k g,GT W p [] k g→Sp m W (Rws W p k) g:=fun k g hg=>by
  rcases hg with hg|⟨s,hs,_⟩
  ·
   exact .gen hg
  ·
   cases hs
 exact ZlT m0 h.inv.tab (fun j hj hr=>(h.inv.how j hj hr).mono (e _)) fun x=>by
  rw[←h.spn x]
  exact⟨fun hx=>hx.mono fun g hg => .gen (.inl hg),fun hx=>hx.mono (e 0)⟩
theorem Pst.add {r:List Int} (h:Pst m W p [] (Sp m W G)) (hr:r.length=W∧AllIn m r) (hG:∀g,G' g↔G g∨g=V r):Pst m W p [r] (Sp m W G') where
 inv:=⟨h.inv.tab,fun s hs=>by rw[List.mem_singleton]at hs;subst hs;exact hr,fun j hj hn=>(h.inv.how j hj hn).mono fun g hg=>by
  rcases hg with hg|⟨s,hs,_⟩
  ·
   exact .gen (.inl hg)
  ·
   cases hs⟩
 spn := fun x=>by
  constructor
  ·
   intro hx
   refine hx.mono fun g hg => ?_
   rcases hg with hg|⟨s,hs,_,rfl⟩
   ·
    exact((h.spn g).1 (.gen (.inl hg))).mono fun g hg => .gen ((hG g).2 (.inl hg))
   ·
    rw[List.mem_singleton]at hs
    subst hs
    exact .gen ((hG _).2 (.inr rfl))
  ·
   intro hx
   refine hx.mono fun g hg => ?_
   rcases(hG g).1 hg with hg|rfl
   ·
    refine((h.spn g).2 (.gen hg)).mono fun g hg => ?_
    rcases hg with hg|⟨s,hs,_⟩
    ·
     exact .gen (.inl hg)
    ·
     cases hs
   ·
    exact .gen (.inr ⟨r,List.mem_singleton.2 rfl,fun i hi=>by omega,rfl⟩)
theorem ZfW (n:Nat) (i:Int):row (List.replicate n ([]:List Int)) i=[]:=by
 simp only[row,List.getD_eq_getElem?_getD,List.getElem?_replicate]
 split <;> rfl
theorem Pst.none (hG:∀g,¬ G g):Pst m W (List.replicate W []) [] (Sp m W G) where
 inv:=⟨⟨List.length_replicate,fun j _ => .inl (ZfW _ _)⟩,fun s hs=>(by cases hs),fun j _ hn=>absurd (ZfW _ _) hn⟩
 spn:=fun x=>by
  constructor
  ·
   intro hx
   refine hx.mono fun g hg => ?_
   rcases hg with ⟨j,_,_,hn,_⟩|⟨s,hs,_⟩
   ·
    exact absurd (ZfW _ _) hn
   ·
    cases hs
  ·
   intro hx
   exact hx.mono fun g hg=>absurd hg (hG g)
def Gn (f:Nat→List Int) (k:Nat):Vc→Prop:=fun g=>∃i:Nat,i < k∧g=V (f i)
theorem ZgY {f:Nat→List Int} {k:Nat} (g:Vc):Gn f (k+1) g↔Gn f k g∨g=V (f k):=by
 constructor
 ·
  rintro⟨i,hi,rfl⟩
  by_cases e:i=k
  ·
   exact .inr (by rw[e])
  ·
   exact .inl ⟨i,by omega,rfl⟩
 ·
  rintro(⟨i,hi,rfl⟩|rfl)
  ·
   exact⟨i,by omega,rfl⟩
  ·
   exact⟨k,by omega,rfl⟩
theorem ZhM (m2:2≤m) (m12:m≤12) (hW:W≤100000) {X:List (List Int)} (hX:X.length≤1000000) (hr:∀i:Nat,i < X.length→(row X (i:Int)).length=W∧AllIn m (row X (i:Int))) :
  ∃p,ZE.f X (W:Int) m=some p∧Pst m W p [] (Sp m W (Gn (fun i=>row X (i:Int)) X.length)):=by
 rw[ZE.f_eq,Int.toNat_natCast]
 have key:∀k,k≤X.length→∃p,ZE.l0 X m 0 (List.replicate W [])=ZE.l0 X m (k:Int) p∧Pst m W p [] (Sp m W (Gn (fun i=>row X (i:Int)) k)):=by
  intro k
  induction k with
  | zero=>exact fun _=>⟨_,rfl,Pst.none fun g ⟨i,hi,_⟩=>by omega⟩
  | succ k ih =>
   intro hk
   obtain⟨p,h1,h2⟩:=ih (by omega)
   obtain⟨p', h3,h4⟩:=ZlA m2 m12 hW (h2.add (hr k (by omega)) ZgY)
   refine⟨p', ?_,h4⟩
   rw[h1,ZE.l0_eq,wn (j:=k) (by omega)]
   ((with_reducible repeat (first|refine Zi (by first|assumption|omega|rfl|exact B_pos (by omega)) ?_|refine Zh (by first|assumption|omega|decide|exact B_not (by omega)) ?_|refine Zf (by first|assumption) ?_|dsimp only));first|done|(with_reducible rfl)|simp (disch:=omega) only[w64]|(show False;done))
 obtain⟨p,h1,h2⟩:=key X.length (Nat.le_refl _)
 refine⟨p,?_,h2⟩
 (with_reducible repeat (first|refine Zi (by first|assumption|omega|rfl|exact B_pos (by omega)) ?_|refine Zh (by first|assumption|omega|decide|exact B_not (by omega)) ?_|refine Zf (by first|assumption) ?_|dsimp only))
 rw[h1,ZE.l0_eq]
 ((with_reducible repeat (first|refine Zi (by first|assumption|omega|rfl|exact B_pos (by omega)) ?_|refine Zh (by first|assumption|omega|decide|exact B_not (by omega)) ?_|refine Zf (by first|assumption) ?_|dsimp only));first|done|(with_reducible rfl)|simp (disch:=omega) only[w64]|(show False;done))
theorem ZfT {r:List Int} {A i:Nat} (h:i < A):rd (r.take A) (i:Int)=rd r (i:Int):=by
 simp[rd,List.getD_eq_getElem?_getD,List.getElem?_take,h]
theorem ZfS {r:List Int} {A i:Nat}:rd (r.drop A) (i:Int)=rd r ((A+i:Nat):Int):=by
 simp only[rd,Int.toNat_natCast,List.getD_eq_getElem?_getD,List.getElem?_drop]
theorem Lead.first {A B:Nat} {q:List (List Int)} (h:Lead m (A+B) p M) (m0:0 < m) (hl:q.length=A) (hr:∀j:Nat,j < A→row q (j:Int)=(row p (j:Int)).take A) :
    Lead m A q (fun x=>∃y,M y∧∀i,i < A→m∣y i - x i):=by
  have hP:∀j:Nat,j < A→row p (j:Int)≠[]→PRow m A j (row q (j:Int)):=fun j hj hn=>by
    have k:=h.tab.prow (show j < A+B by omega) hn
    rw[hr j hj]
    refine⟨by rw[List.length_take,k.len];omega,k.ent.take _,fun i hi=>by rw[ZfT (by omega)];exact k.zero i hi,?_,?_,?_⟩ <;> rw[ZfT hj]
    · exact k.pos
    · exact k.lt
    · exact k.dvd
  have hE:∀j:Nat,j < A→(row q (j:Int)=[]↔row p (j:Int)=[]):=fun j hj=>by
    constructor
    · intro e
      by_cases hn:row p (j:Int)=[]
      · exact hn
      · exact absurd e (hP j hj hn).ne
    · intro e;rw[hr j hj,e];simp
  have hdv:∀j:Nat,j < A→dv m q j=dv m p j:=fun j hj=>by
    unfold dv
    by_cases hn:row p (j:Int)=[]
    · rw[if_pos hn,if_pos ((hE j hj).2 hn)]
    · rw[if_neg hn,if_neg fun e=>hn ((hE j hj).1 e),hr j hj,ZfT hj]
  exact {
    tab:=⟨hl,fun j hj=>by
      by_cases hn:row p (j:Int)=[]
      · exact .inl ((hE j hj).2 hn)
      · exact .inr (hP j hj hn)⟩
    sub := ⟨⟨_,h.sub.zero,fun i _=>Zas rfl⟩,fun x y ⟨x', hx,ex⟩ ⟨y', hy,ey⟩ c=>⟨_,h.sub.lin _ _ hx hy c,fun i hi=>by
      have:=Int.dvd_add (ex i hi) (Int.dvd_mul_of_dvd_right (b:=c) (ey i hi))
      rw[Int.mul_sub]at this
      rwa[show ∀a b c d:Int,a+c - (b+d)=a - b+(c - d)from fun a b c d=>by omega]⟩,
      fun x y ⟨x', hx,ex⟩ e=>⟨x', hx,fun i hi=>by
        have:=Int.dvd_add (ex i hi) (e i hi)
        rwa[show ∀a b c:Int,a - b+(b - c)=a - c from fun a b c=>by omega]at this⟩⟩
    own:=fun j hj hn=>⟨V (row p (j:Int)),h.own j (by omega) fun e=>hn ((hE j hj).2 e),fun i hi=>by
      refine Zas ?_
      show rd (row p (j:Int)) (i:Int)=rd (row q (j:Int)) (i:Int)
      rw[hr j hj,ZfT hi]⟩
    lead:=fun x ⟨y,hy,e⟩ j hj hz=>by
      have:=h.lead y hy j (by omega) fun i hi=>by
        have:=Int.dvd_add (e i (by omega)) (hz i hi)
        rwa[show ∀a b:Int,a - b+b=a from fun a b=>by omega]at this
      rw[hdv j hj]
      have hd:=(dv_bd m0 h.tab (show j < A+B by omega)).2.2
      have:=Int.dvd_sub this (Int.dvd_trans hd (e j hj))
      rwa[show ∀a b:Int,a - (a - b)=b from fun a b=>by omega]at this }
def pad (A:Nat) (x:Vc):Vc:=fun i=>if i < A then 0 else x (i - A)
theorem Lead.last {A B:Nat} {q:List (List Int)} (h:Lead m (A+B) p M) (m0:0 < m) (hl:q.length=B) (hr:∀j:Nat,j < B→row q (j:Int)=(row p ((A+j:Nat):Int)).drop A) :
    Lead m B q (fun x=>M (pad A x)):=by
  have hP:∀j:Nat,j < B→row p ((A+j:Nat):Int)≠[]→PRow m B j (row q (j:Int)):=fun j hj hn=>by
    have k:=h.tab.prow (show A+j < A+B by omega) hn
    rw[hr j hj]
    refine⟨by rw[List.length_drop,k.len];omega,k.ent.drop _,fun i hi=>by rw[ZfS];exact k.zero _ (by omega),?_,?_,?_⟩ <;> rw[ZfS]
    · exact k.pos
    · exact k.lt
    · exact k.dvd
  have hE:∀j:Nat,j < B→(row q (j:Int)=[]↔row p ((A+j:Nat):Int)=[]):=fun j hj=>by
    constructor
    · intro e
      by_cases hn:row p ((A+j:Nat):Int)=[]
      · exact hn
      · exact absurd e (hP j hj hn).ne
    · intro e;rw[hr j hj,e];simp
  have hdv:∀j:Nat,j < B→dv m q j=dv m p (A+j):=fun j hj=>by
    unfold dv
    by_cases hn:row p ((A+j:Nat):Int)=[]
    · rw[if_pos hn,if_pos ((hE j hj).2 hn)]
    · rw[if_neg hn,if_neg fun e=>hn ((hE j hj).1 e),hr j hj,ZfS]
  have hpad:∀(x y:Vc) (c:Int),pad A (fun i=>x i+c*y i)=fun i=>pad A x i+c*pad A y i:=fun x y c=>by
    funext i
    unfold pad
    by_cases h:i < A
    · simp[h]
    · simp[h]
  exact {
    tab:=⟨hl,fun j hj=>by
      by_cases hn:row p ((A+j:Nat):Int)=[]
      · exact .inl ((hE j hj).2 hn)
      · exact .inr (hP j hj hn)⟩
    sub := ⟨h.sub.alike _ _ h.sub.zero fun i _=>Zas (by unfold pad;simp),fun x y hx hy c=>by rw[hpad];exact h.sub.lin _ _ hx hy c,
      fun x y hx e=>h.sub.alike _ _ hx fun i hi=>by
        unfold pad
        by_cases k:i < A
        · simp[k]
        · simp only[k,if_false]
          exact e (i - A) (by omega)⟩
    own := fun j hj hn=>by
      have hn' : row p ((A+j:Nat):Int)≠[]:=fun e=>hn ((hE j hj).2 e)
      refine h.sub.alike _ _ (h.own (A+j) (by omega) hn') fun i hi=>Zas ?_
      unfold pad
      by_cases k:i < A
      · simp only[k,if_true]
        exact(h.tab.prow (show A+j < A+B by omega) hn').zero i (by omega)
      · simp only[k,if_false]
        show rd (row p ((A+j:Nat):Int)) (i:Int)=rd (row q (j:Int)) ((i - A:Nat):Int)
        rw[hr j hj,ZfS,show A+(i - A)=i by omega]
    lead := fun x hx j hj hz=>by
      have:=h.lead _ hx (A+j) (by omega) fun i hi=>by
        unfold pad
        by_cases k:i < A
        · simp[k]
        · simp only[k,if_false]
          exact hz _ (by omega)
      rw[hdv j hj]
      unfold pad at this
      rw[if_neg (by omega),show A+j - A=j by omega]at this
      exact this }
theorem Zbn {a b:List Int} {i:Nat} (h:i < a.length):rd (a++b) (i:Int)=rd a (i:Int):=by
 simp[rd,List.getD_eq_getElem?_getD,List.getElem?_append,h]
theorem ZbG {a b:List Int} {i:Nat} (h:a.length≤i):rd (a++b) (i:Int)=rd b ((i - a.length:Nat):Int):=by
 simp only[rd,Int.toNat_natCast,List.getD_eq_getElem?_getD,List.getElem?_append,if_neg (show ¬ i < a.length by omega)]
theorem ZiT {A B k:Nat} {f e:Nat→List Int} (hf:∀i,i < k→(f i).length=A) (hM:Lead m (A+B) p (Sp m (A+B) (Gn (fun i=>f i++e i) k))) (hL:Sub m A (fun x=>∃y,Sp m (A+B) (Gn (fun i=>f i++e i) k) y∧∀i,i < A→m∣y i - x i)) (x:Vc) :
  (∃y,Sp m (A+B) (Gn (fun i=>f i++e i) k) y∧∀i,i < A→m∣y i - x i)↔Sp m A (Gn f k) x:=by
 constructor
 ·
  rintro⟨y,hy,h⟩
  refine .alike ?_ h
  have hs:Sub m (A+B) (Sp m A (Gn f k)):=⟨.nil,fun x y hx hy c=>hx.plus (hy.mul c),fun x y hx h => .alike hx fun i hi=>h i (by omega)⟩
  refine hs.all (fun g hg => ?_) hy
  obtain⟨i,hi,rfl⟩:=hg
  refine .alike (.gen ⟨i,hi,rfl⟩) fun j hj=>Zas ?_
  show rd (f i) (j:Int)=rd (f i++e i) (j:Int)
  rw[Zbn (by rw[hf i hi];exact hj)]
 ·
  intro hx
  refine hL.all (fun g hg => ?_) hx
  obtain⟨i,hi,rfl⟩:=hg
  refine⟨_,.gen ⟨i,hi,rfl⟩,fun j hj=>Zas ?_⟩
  show rd (f i++e i) (j:Int)=rd (f i) (j:Int)
  rw[Zbn (by rw[hf i hi];exact hj)]
end
theorem Za5 {t:List Int} {j:Nat} {x:Int} (h:j < t.length):rd (t.set j x) (j:Int)=x:=by
 rw[Za4 (by rw[List.length_set];exact h)];simp
theorem Zbb {t:List Int} {i j:Nat} {x:Int} (h:i≠j):rd (t.set j x) (i:Int)=rd t (i:Int):=by
 simp only[rd,Int.toNat_natCast,List.getD_eq_getElem?_getD,List.getElem?_set,if_neg (show ¬ j=i from fun e=>h e.symm)]
end Go.Proofs.Ytdamfbighdkcbaa.V
namespace Go.Proofs.Ytdamfbighdkcbaa.V
open Go.RowKit Go.Proofs.Ytdamfbighdkcbaa.D Go.Proofs.Ytdamfbighdkcbaa.P
def unitC (c i:Nat):List Int:=(List.replicate c (0:Int)).set i 1
theorem ZbU (c i:Nat):(unitC c i).length=c:=by simp[unitC]
theorem Zep {m:Int} (m2:2≤m) (c i:Nat):AllIn m (unitC c i):=Zbq fun x hx=>by
 rcases List.mem_or_eq_of_mem_set hx with h|h
 ·
  rw[List.mem_replicate]at h;omega
 ·
  omega
theorem ZbD (g:List (List Int)) (m:Int) (u v:List Int) (d:Nat):(bdL g m u v d).length=(cells g ((d+1:Nat):Int)).toNat:=by rw[bdL,List.length_map,List.length_range]
theorem Zjj {m:Int} (m2:2≤m) (g:List (List Int)) (u v:List Int) (d:Nat):AllIn m (bdL g m u v d):=Zbq fun x hx=>by
 obtain⟨i,_,rfl⟩:=List.mem_map.1 hx
 exact⟨Int.emod_nonneg _ (by omega),Int.emod_lt_of_pos _ (by omega)⟩
noncomputable def bdU (g:List (List Int)) (m:Int) (u:List Int) (e i:Nat):List Int:=bdL g m u (unitC (cells g (e:Int)).toNat i) e
noncomputable def bdG (g:List (List Int)) (m:Int) (u:List Int):Nat→Vc→Prop
 | 0=>fun _=>False
 | e+1=>Gn (bdU g m u e) (cells g (e:Int)).toNat
noncomputable def bdA (g:List (List Int)) (m:Int) (u:List Int) (e i:Nat):List Int:=bdU g m u e i++unitC (cells g (e:Int)).toNat i
noncomputable def nB (g:List (List Int)) (e:Nat):Nat:=(cells g (e:Int)).toNat
theorem ZiD {g:List (List Int)} (hg:Grp g) {m:Int} (m2:2≤m) {e:Nat} (he:e≤3) (i:Nat):Co g m e (unitC (cells g (e:Int)).toNat i):=by
 have hb:=Zdt hg (d:=(e:Int)) (by omega)
 exact⟨⟨by omega,by omega⟩,by rw[ZbU];omega,Zep m2 _ _⟩
theorem ZfI (m:Int) {c:Nat} (hc:c≤100000):Zak.f m (c:Int)=some (m,List.replicate c []):=by
 rw[Zak.f_eq,Int.toNat_natCast]
 ((with_reducible repeat (first|refine Zi (by first|assumption|omega|rfl|exact B_pos (by omega)) ?_|refine Zh (by first|assumption|omega|decide|exact B_not (by omega)) ?_|refine Zf (by first|assumption) ?_|dsimp only));first|done|(with_reducible rfl)|simp (disch:=omega) only[w64]|(show False;done))
theorem concat2 {a b:List Int} (ha:a.length≤1000000) (hb:b.length≤1000000):Zl.f [a,b]=some (a++b):=by
 have l2:([a,b]:List (List Int)).length=2:=rfl
 have r0:row [a,b] 0=a:=rfl
 have r1:row [a,b] 1=b:=rfl
 have w1:wrapI (0+1)=1:=w64 (by omega) (by omega)
 have w2:wrapI (1+1)=2:=w64 (by omega) (by omega)
 have w3:wrapI (0+(a.length:Int))=(a.length:Int):=by rw[w64 (by omega) (by omega)];omega
 have w4:wrapI ((a.length:Int)+(b.length:Int))=((a.length+b.length:Nat):Int):=by rw[w64 (by omega) (by omega)];omega
 have w5:wrapI (0 - 0)=0:=w64 (by omega) (by omega)
 have hG:Z5.f ((a.length+b.length:Nat):Int)=some []:=by
  have w6:wrapI (((a.length+b.length:Nat):Int) - 0)=((a.length+b.length:Nat):Int):=by rw[w64 (by omega) (by omega)];omega
  rw[Z5.f_eq,w5,w6,Int.toNat_natCast,List.length_replicate]
  by_cases h:a.length+b.length=0
  ·
   rw[h];((with_reducible repeat (first|refine Zi (by first|assumption|omega|rfl|exact B_pos (by omega)) ?_|refine Zh (by first|assumption|omega|decide|exact B_not (by omega)) ?_|refine Zf (by first|assumption) ?_|dsimp only));first|done|(with_reducible rfl)|simp (disch:=omega) only[w64]|(show False;done))
  ·
   (with_reducible repeat (first|refine Zi (by first|assumption|omega|rfl|exact B_pos (by omega)) ?_|refine Zh (by first|assumption|omega|decide|exact B_not (by omega)) ?_|refine Zf (by first|assumption) ?_|dsimp only))
   rfl
 rw[Zl.f_eq,l2,Zl.l0_eq,r0,w1,w3]
 (with_reducible repeat (first|refine Zi (by first|assumption|omega|rfl|exact B_pos (by omega)) ?_|refine Zh (by first|assumption|omega|decide|exact B_not (by omega)) ?_|refine Zf (by first|assumption) ?_|dsimp only))
 rw[Zl.l0_eq,r1,w2,w4]
 (with_reducible repeat (first|refine Zi (by first|assumption|omega|rfl|exact B_pos (by omega)) ?_|refine Zh (by first|assumption|omega|decide|exact B_not (by omega)) ?_|refine Zf (by first|assumption) ?_|dsimp only))
 rw[Zl.l0_eq]
 (with_reducible repeat (first|refine Zi (by first|assumption|omega|rfl|exact B_pos (by omega)) ?_|refine Zh (by first|assumption|omega|decide|exact B_not (by omega)) ?_|refine Zf (by first|assumption) ?_|dsimp only))
 rw[l2,Zl.l1_eq,r0,w1,show([]:List Int).length=0 from rfl]
 (with_reducible repeat (first|refine Zi (by first|assumption|omega|rfl|exact B_pos (by omega)) ?_|refine Zh (by first|assumption|omega|decide|exact B_not (by omega)) ?_|refine Zf (by first|assumption) ?_|dsimp only))
 rw[List.nil_append,Zl.l1_eq,r1,w2]
 (with_reducible repeat (first|refine Zi (by first|assumption|omega|rfl|exact B_pos (by omega)) ?_|refine Zh (by first|assumption|omega|decide|exact B_not (by omega)) ?_|refine Zf (by first|assumption) ?_|dsimp only))
 rw[Zl.l1_eq]
 ((with_reducible repeat (first|refine Zi (by first|assumption|omega|rfl|exact B_pos (by omega)) ?_|refine Zh (by first|assumption|omega|decide|exact B_not (by omega)) ?_|refine Zf (by first|assumption) ?_|dsimp only));first|done|(with_reducible rfl)|simp (disch:=omega) only[w64]|(show False;done))
theorem nA_bd {g:List (List Int)} (hg:Grp g) {e:Nat} (he:e≤4):nB g e≤16807∧((nB g e:Nat):Int)=cells g (e:Int):=by
 have hb:=Zdt hg (d:=(e:Int)) (by omega)
 unfold nB
 omega
theorem ZiK {g:List (List Int)} (hg:Grp g) {m:Int} {u:List Int} (hm:Mdl g m u) {n:Nat} (hn:n≤3) :
  ∃p,ZN.f g m u (n:Int)=some (m,p)∧Pst m (nB g n) p [] (Sp m (nB g n) (bdG g m u n)):=by
 have m2:=hm.m2;have m12:=hm.m12
 obtain⟨b1,b2⟩:=nA_bd hg (e:=n) (by omega)
 have hc:=Ze2 hg (d:=(n:Int)) (by omega) (by omega)
 have hN:=ZfI m (c:=nB g n) (by omega)
 rw[b2]at hN
 rw[ZN.f_eq,hc,Option.bind_some,hN,Option.bind_some]
 cases n with
 | zero =>
  refine⟨_,if_pos rfl,Pst.none fun g h=>h⟩
 | succ e =>
  obtain⟨c1,c2⟩:=nA_bd hg (e:=e) (by omega)
  have w:wrapI (((e+1:Nat):Int) - 1)=(e:Int):=by rw[w64 (by omega) (by omega)];omega
  have hc2:=Ze2 hg (d:=(e:Int)) (by omega) (by omega)
  have hz:=zero_ hg (n:=e) (by omega)
  rw[←show nB g e=(cells g (e:Int)).toNat from rfl]at hz
  rw[w,hc2,Option.bind_some,if_neg (by omega),←c2]
  have key:∀k,k≤nB g e→∃p,ZN.l0 ((e+1:Nat):Int) ((nB g e:Nat):Int) 0 g m u m (List.replicate (nB g (e+1)) [])=ZN.l0 ((e+1:Nat):Int) ((nB g e:Nat):Int) (k:Int) g m u m p∧Pst m (nB g (e+1)) p [] (Sp m (nB g (e+1)) (Gn (bdU g m u e) k)):=by
   intro k
   induction k with
   | zero=>exact fun _=>⟨_,rfl,Pst.none fun g ⟨i,hi,_⟩=>by omega⟩
   | succ k ih =>
    intro hk
    obtain⟨p,h1,h2⟩:=ih (by omega)
    have hl:(List.replicate (nB g e) (0:Int)).length=nB g e:=List.length_replicate
    have hB:=Zgc hg hm (ZiD hg m2 (e:=e) (by omega) k)
    have hB:Zah.f g m u (e:Int) ((List.replicate (nB g e) (0:Int)).set k 1)=some (((e+1:Nat):Int),bdU g m u e k):=hB
    obtain⟨p', h3,h4⟩:=put_ m2 m12 (show nB g (e+1)≤100000 by omega) (h2.add (r:=bdU g m u e k) ⟨ZbD ..,Zjj m2 _ _ _ _⟩ ZgY)
    refine⟨p', ?_,h4⟩
    rw[h1,ZN.l0_eq,w,wn (j:=k) (by omega),Int.toNat_natCast]
    ((with_reducible repeat (first|refine Zi (by first|assumption|omega|rfl|exact B_pos (by omega)) ?_|refine Zh (by first|assumption|omega|decide|exact B_not (by omega)) ?_|refine Zf (by first|assumption) ?_|dsimp only));first|done|(with_reducible rfl)|simp (disch:=omega) only[w64]|(show False;done))
  obtain⟨p,h1,h2⟩:=key _ (Nat.le_refl _)
  refine⟨p,?_,h2⟩
  have e1:(cells g ((e+1:Nat):Int)).toNat=nB g (e+1):=rfl
  rw[h1,ZN.l0_eq]
  ((with_reducible repeat (first|refine Zi (by first|assumption|omega|rfl|exact B_pos (by omega)) ?_|refine Zh (by first|assumption|omega|decide|exact B_not (by omega)) ?_|refine Zf (by first|assumption) ?_|dsimp only));first|done|(with_reducible rfl)|simp (disch:=omega) only[w64]|(show False;done))
theorem ZkB {g:List (List Int)} (hg:Grp g) {m:Int} {u:List Int} (hm:Mdl g m u) {n:Nat} (hn:n≤3) :
  ∃p,Zab.f g m u (n:Int)=some (m,p,((nB g (n+1):Nat):Int))∧Pst m (nB g (n+1)+nB g n) p [] (Sp m (nB g (n+1)+nB g n) (Gn (bdA g m u n) (nB g n))):=by
 have m2:=hm.m2;have m12:=hm.m12
 obtain⟨b1,b2⟩:=nA_bd hg (e:=n) (by omega)
 obtain⟨c1,c2⟩:=nA_bd hg (e:=n+1) (by omega)
 have hc:=Ze2 hg (d:=(n:Int)) (by omega) (by omega)
 have hc2:=Ze2 hg (d:=((n+1:Nat):Int)) (by omega) (by omega)
 have hz:=zero_ hg (n:=n) (by omega)
 rw[←show nB g n=(cells g (n:Int)).toNat from rfl]at hz
 have hN:=ZfI m (c:=nB g (n+1)+nB g n) (by omega)
 have w:wrapI ((nB g (n+1):Int)+(nB g n:Int))=((nB g (n+1)+nB g n:Nat):Int):=by rw[w64 (by omega) (by omega)];omega
 rw[Zab.f_eq,wn (j:=n) (by omega),hc2,Option.bind_some,hc,Option.bind_some,←b2,←c2,w,hN,Option.bind_some]
 have key:∀k,k≤nB g n→∃p,Zab.l0 (n:Int) ((nB g (n+1):Nat):Int) ((nB g n:Nat):Int) 0 g m u m (List.replicate (nB g (n+1)+nB g n) [])=Zab.l0 (n:Int) ((nB g (n+1):Nat):Int) ((nB g n:Nat):Int) (k:Int) g m u m p∧Pst m (nB g (n+1)+nB g n) p [] (Sp m (nB g (n+1)+nB g n) (Gn (bdA g m u n) k)):=by
  intro k
  induction k with
  | zero=>exact fun _=>⟨_,rfl,Pst.none fun g ⟨i,hi,_⟩=>by omega⟩
  | succ k ih =>
   intro hk
   obtain⟨p,h1,h2⟩:=ih (by omega)
   have hl:(List.replicate (nB g n) (0:Int)).length=nB g n:=List.length_replicate
   have hB:=Zgc hg hm (ZiD hg m2 (e:=n) (by omega) k)
   have hB:Zah.f g m u (n:Int) ((List.replicate (nB g n) (0:Int)).set k 1)=some (((n+1:Nat):Int),bdU g m u n k):=hB
   have bl:(bdU g m u n k).length=nB g (n+1):=ZbD ..
   have ul:(unitC (nB g n) k).length=nB g n:=ZbU ..
   have hC:Zl.f [bdU g m u n k,(List.replicate (nB g n) (0:Int)).set k 1]=some (bdA g m u n k):=concat2 (a:=bdU g m u n k) (b:=unitC (nB g n) k) (by omega) (by omega)
   have al:(bdA g m u n k).length=nB g (n+1)+nB g n:=by
    show(bdU g m u n k++unitC (nB g n) k).length=_
    rw[List.length_append,bl,ul]
   obtain⟨p', h3,h4⟩:=put_ m2 m12 (show nB g (n+1)+nB g n≤100000 by omega) (h2.add (r:=bdA g m u n k) ⟨al,(Zjj m2 _ _ _ _).append (Zep m2 _ _)⟩ ZgY)
   refine⟨p', ?_,h4⟩
   rw[h1,Zab.l0_eq,wn (j:=k) (by omega),Int.toNat_natCast]
   ((with_reducible repeat (first|refine Zi (by first|assumption|omega|rfl|exact B_pos (by omega)) ?_|refine Zh (by first|assumption|omega|decide|exact B_not (by omega)) ?_|refine Zf (by first|assumption) ?_|dsimp only));first|done|(with_reducible rfl)|simp (disch:=omega) only[w64]|(show False;done))
 obtain⟨p,h1,h2⟩:=key _ (Nat.le_refl _)
 refine⟨p,?_,h2⟩
 rw[h1,Zab.l0_eq]
 ((with_reducible repeat (first|refine Zi (by first|assumption|omega|rfl|exact B_pos (by omega)) ?_|refine Zh (by first|assumption|omega|decide|exact B_not (by omega)) ?_|refine Zf (by first|assumption) ?_|dsimp only));first|done|(with_reducible rfl)|simp (disch:=omega) only[w64]|(show False;done))
def ZbP (p:List (List Int)) (A B:Nat):List (List Int):=(List.range B).map fun j:Nat=>(row p ((A+j:Nat):Int)).drop A
def Zef (p:List (List Int)) (A:Nat):List (List Int):=(List.range A).map fun j:Nat=>(row p (j:Int)).take A
theorem Zee {p:List (List Int)} {A B j:Nat} (h:j < B):row (ZbP p A B) (j:Int)=(row p ((A+j:Nat):Int)).drop A:=by
 rw[Za0 (by simpa [ZbP] using h)]
 simp[ZbP]
theorem Zi9 {p:List (List Int)} {A j:Nat} (h:j < A):row (Zef p A) (j:Int)=(row p (j:Int)).take A:=by
 rw[Za0 (by simpa [Zef] using h)]
 simp[Zef]
theorem ZeX (F:Nat→List Int) (B k:Nat) (h:k < B):((List.range k).map F++List.replicate (B - k) []).set k (F k)=(List.range (k+1)).map F++List.replicate (B - (k+1)) []:=by
 rw[List.set_append,if_neg (by simp),List.length_map,List.length_range,Nat.sub_self,show B - k=(B - (k+1))+1 by omega,List.replicate_succ,List.set_cons_zero,List.range_succ,List.map_append]
 simp
theorem ZeW (F:Nat→List Int) (B k:Nat) (h:k < B) (e:F k=[]):(List.range k).map F++List.replicate (B - k) []=(List.range (k+1)).map F++List.replicate (B - (k+1)) []:=by
 rw[show B - k=(B - (k+1))+1 by omega,List.replicate_succ,List.range_succ,List.map_append,List.map_singleton,e]
 simp
theorem ZfX (F:Nat→List Int) (B k:Nat) (h:k≤B):((List.range k).map F++List.replicate (B - k) []).length=B:=by simp;omega
theorem part_ {m:Int} {p:List (List Int)} {A B:Nat} (hA:A≤100000) (hB:B≤100000) (ht:PTab m (A+B) p):ZR.f m p (A:Int)=some (m,ZbP p A B,m,p):=by
 have hl:=ht.len
 have w:wrapI ((p.length:Int) - (A:Int))=(B:Int):=by rw[w64 (by omega) (by omega)];omega
 rw[ZR.f_eq,w,ZfI m hB,Option.bind_some]
 obtain⟨F,hF⟩:∃F:Nat→List Int,F=fun j:Nat=>(row p ((A+j:Nat):Int)).drop A:=⟨_,rfl⟩
 have loop:=up B (fun k=>ZR.l0 (A:Int) ((A+k:Nat):Int) m p m ((List.range k).map F++List.replicate (B - k) [])) (fun k hk=>by
  have hw:wrapI (((A+k:Nat):Int) - (A:Int))=(k:Int):=by rw[w64 (by omega) (by omega)];omega
  have rl:=ZfX F B k (by omega)
  have hFk:F k=(row p ((A+k:Nat):Int)).drop A:=by rw[hF]
  rw[show A+(k+1)=A+k+1 from rfl,ZR.l0_eq,wn (j:=A+k) (by omega),hw]
  simp only[Int.toNat_natCast]
  rw[←hFk]
  by_cases hr:row p ((A+k:Nat):Int)=[]
  ·
   have e0:(row p ((A+k:Nat):Int)).length=0:=by rw[hr];rfl
   rw[←ZeW F B k hk (by rw[hFk,hr];simp)]
   ((with_reducible repeat (first|refine Zi (by first|assumption|omega|rfl|exact B_pos (by omega)) ?_|refine Zh (by first|assumption|omega|decide|exact B_not (by omega)) ?_|refine Zf (by first|assumption) ?_|dsimp only));first|done|(with_reducible rfl)|simp (disch:=omega) only[w64]|(show False;done))
  ·
   have hP:=ht.prow (show A+k < A+B by omega) hr
   have e1:=hP.len
   have e2:(F k).length=B:=by rw[hFk,List.length_drop,e1];omega
   rw[←ZeX F B k hk]
   ((with_reducible repeat (first|refine Zi (by first|assumption|omega|rfl|exact B_pos (by omega)) ?_|refine Zh (by first|assumption|omega|decide|exact B_not (by omega)) ?_|refine Zf (by first|assumption) ?_|dsimp only));first|done|(with_reducible rfl)|simp (disch:=omega) only[w64]|(show False;done)))
 rw[List.range_zero,List.map_nil,List.nil_append,Nat.sub_zero,Nat.add_zero,Nat.sub_self,List.replicate_zero,List.append_nil]at loop
 rw[show ZbP p A B=(List.range B).map F by rw[hF];rfl]
 refine loop.trans ?_
 rw[ZR.l0_eq]
 ((with_reducible repeat (first|refine Zi (by first|assumption|omega|rfl|exact B_pos (by omega)) ?_|refine Zh (by first|assumption|omega|decide|exact B_not (by omega)) ?_|refine Zf (by first|assumption) ?_|dsimp only));first|done|(with_reducible rfl)|simp (disch:=omega) only[w64]|(show False;done))
noncomputable def coM (g:List (List Int)) (m:Int) (u:List Int) (n:Nat):Vc→Prop:=fun x=>Sp m (nB g (n+1)+nB g n) (Gn (bdA g m u n) (nB g n)) (pad (nB g (n+1)) x)
theorem ZbX {m:Int} {p:List (List Int)} {A B:Nat} {M:Vc→Prop} (m0:0 < m) (h:Lead m (A+B) p M):Lead m B (ZbP p A B) (fun x=>M (pad A x)) :=
 h.last m0 (by simp[ZbP]) fun j hj=>Zee hj
theorem Zgk {g:List (List Int)} (hg:Grp g) {m:Int} {u:List Int} (hm:Mdl g m u) {n:Nat} (hn:n≤3) :
  ∃q,Zap.f g m u (n:Int)=some (m,q)∧Lead m (nB g n) q (coM g m u n):=by
 have m2:=hm.m2
 obtain⟨b1,b2⟩:=nA_bd hg (e:=n) (by omega)
 obtain⟨c1,c2⟩:=nA_bd hg (e:=n+1) (by omega)
 obtain⟨p,h1,h2⟩:=ZkB hg hm hn
 have h3:=h2.lead (by omega)
 have h4:=part_ (m:=m) (A:=nB g (n+1)) (B:=nB g n) (by omega) (by omega) h3.tab
 refine⟨_,?_,ZbX (by omega) h3⟩
 rw[Zap.f_eq]
 ((with_reducible repeat (first|refine Zi (by first|assumption|omega|rfl|exact B_pos (by omega)) ?_|refine Zh (by first|assumption|omega|decide|exact B_not (by omega)) ?_|refine Zf (by first|assumption) ?_|dsimp only));first|done|(with_reducible rfl)|simp (disch:=omega) only[w64]|(show False;done))
theorem Zmi {g:List (List Int)} (hg:Grp g) {m:Int} {u:List Int} (hm:Mdl g m u) {n:Nat} (hn:n≤3):ZI.f g m u (n:Int)=some ((List.range (nB g n)).map (bdA g m u n)):=by
 have m2:=hm.m2
 obtain⟨b1,b2⟩:=nA_bd hg (e:=n) (by omega)
 obtain⟨c1,c2⟩:=nA_bd hg (e:=n+1) (by omega)
 have hc:=Zes hg (d:=(n:Int)) (by omega) (by omega)
 have hc2:=Zes hg (d:=((n+1:Nat):Int)) (by omega) (by omega)
 rw[←b2]at hc
 rw[←c2]at hc2
 have hz:ZaG.f g (n:Int)=some ((n:Int),List.replicate (nB g n) 0):=by
  rw[ZaG.f_eq,hc,Option.bind_some,Int.toNat_natCast]
  ((with_reducible repeat (first|refine Zi (by first|assumption|omega|rfl|exact B_pos (by omega)) ?_|refine Zh (by first|assumption|omega|decide|exact B_not (by omega)) ?_|refine Zf (by first|assumption) ?_|dsimp only));first|done|(with_reducible rfl)|simp (disch:=omega) only[w64]|(show False;done))
 have l3:∀x:List Int,([x]:List (List Int)).length=1:=fun _=>rfl
 have l2:∀x:Int,([x]:List Int).length=1:=fun _=>rfl
 rw[ZI.f_eq,hc,Option.bind_some]
 have loop:=up (nB g n) (fun k=>ZI.l0 (n:Int) ((nB g n:Nat):Int) (k:Int) g m u ((List.range k).map (bdA g m u n))) (fun k hk=>by
  have hl:(List.replicate (nB g n) (0:Int)).length=nB g n:=List.length_replicate
  have bl:(bdU g m u n k).length=nB g (n+1):=ZbD ..
  have ul:((List.replicate (nB g n) (0:Int)).set k 1).length=nB g n:=by simp
  have hCo:=ZiD hg m2 (e:=n) (by omega) k
  have inner:=up (nB g (n+1)) (fun j=>ZI.l1 (n:Int) ((nB g n:Nat):Int) (k:Int) (j:Int) g m u ((List.range k).map (bdA g m u n)) (n:Int) ((bdU g m u n k).take j) ((List.replicate (nB g n) (0:Int)).set k 1)) (fun j hj=>by
   have hL:=(Zgd hg (n:=n+1) (i:=j) (by omega) (by omega)).2
   have hll:=Zcg ((g.length:Int) - 1) (n+1) j
   obtain⟨hx,_⟩:=ZfG hg (n:=n+1) (i:=j) (by omega)
   have hS:=Side_ hg hm hCo hx hll
   have hS:Zad.f g m u (n:Int) ((List.replicate (nB g n) (0:Int)).set k 1) (lst ((g.length:Int) - 1) (n+1) j)=some (rd (bdU g m u n k) (j:Int)):=by
    rw[Za4 (by omega)]
    simp only[bdU,bdL,List.getElem_map,List.getElem_range]
    exact hS
   have tl:((bdU g m u n k).take j).length=j:=by rw[List.length_take];omega
   rw[ZhJ (by omega),ZI.l1_eq,wn (j:=n) (by omega),wn (j:=j) (by omega)]
   (with_reducible repeat (first|refine Zi (by first|assumption|omega|rfl|exact B_pos (by omega)) ?_|refine Zh (by first|assumption|omega|decide|exact B_not (by omega)) ?_|refine Zf (by first|assumption) ?_|dsimp only))
   rw[l2]
   ((with_reducible repeat (first|refine Zi (by first|assumption|omega|rfl|exact B_pos (by omega)) ?_|refine Zh (by first|assumption|omega|decide|exact B_not (by omega)) ?_|refine Zf (by first|assumption) ?_|dsimp only));first|done|(with_reducible rfl)|simp (disch:=omega) only[w64]|(show False;done)))
  simp only[Int.natCast_zero,List.take_zero]at inner
  rw[List.take_of_length_le (by omega)]at inner
  have ml:((List.range k).map (bdA g m u n)).length=k:=by simp
  rw[ZI.l0_eq,Int.toNat_natCast]
  (with_reducible repeat (first|refine Zi (by first|assumption|omega|rfl|exact B_pos (by omega)) ?_|refine Zh (by first|assumption|omega|decide|exact B_not (by omega)) ?_|refine Zf (by first|assumption) ?_|dsimp only))
  rw[inner,ZI.l1_eq,wn (j:=n) (by omega),wn (j:=k) (by omega),l3]
  (with_reducible repeat (first|refine Zi (by first|assumption|omega|rfl|exact B_pos (by omega)) ?_|refine Zh (by first|assumption|omega|decide|exact B_not (by omega)) ?_|refine Zf (by first|assumption) ?_|dsimp only))
  rw[List.range_succ,List.map_append,List.map_singleton]
  rfl)
 simp only[Int.natCast_zero,List.range_zero,List.map_nil]at loop
 rw[loop,ZI.l0_eq]
 ((with_reducible repeat (first|refine Zi (by first|assumption|omega|rfl|exact B_pos (by omega)) ?_|refine Zh (by first|assumption|omega|decide|exact B_not (by omega)) ?_|refine Zf (by first|assumption) ?_|dsimp only));first|done|(with_reducible rfl)|simp (disch:=omega) only[w64]|(show False;done))
theorem ZlE {g:List (List Int)} {m:Int} {u:List Int} {n k:Nat}:(bdA g m u n k).length=nB g (n+1)+nB g n:=by
 show(bdU g m u n k++unitC (nB g n) k).length=_
 rw[List.length_append,ZbU]
 show(bdL _ _ _ _ _).length+_=_
 rw[ZbD]
 rfl
theorem Zlj {g:List (List Int)} (hg:Grp g) {m:Int} {u:List Int} (hm:Mdl g m u) {n:Nat} (hn:n≤3) :
  ∃p,ZQ.f g m u (n:Int)=some (Zef p (nB g (n+1)),ZbP p (nB g (n+1)) (nB g n),p)∧Lead m (nB g (n+1)+nB g n) p (Sp m (nB g (n+1)+nB g n) (Gn (bdA g m u n) (nB g n))):=by
 have m2:=hm.m2;have m12:=hm.m12
 obtain⟨b1,b2⟩:=nA_bd hg (e:=n) (by omega)
 obtain⟨c1,c2⟩:=nA_bd hg (e:=n+1) (by omega)
 have hc:=Zes hg (d:=(n:Int)) (by omega) (by omega)
 have hc2:=Zes hg (d:=((n+1:Nat):Int)) (by omega) (by omega)
 rw[←b2]at hc
 rw[←c2]at hc2
 obtain⟨A,hA⟩:∃A,A=nB g (n+1):=⟨_,rfl⟩
 obtain⟨B,hB⟩:∃B,B=nB g n:=⟨_,rfl⟩
 have hX:((List.range (nB g n)).map (bdA g m u n)).length=nB g n:=by simp
 have hXr:∀i:Nat,i < nB g n→row ((List.range (nB g n)).map (bdA g m u n)) (i:Int)=bdA g m u n i:=fun i hi=>by
  rw[Za0 (by omega)];simp
 obtain⟨p,h1,h2⟩:=ZhM m2 m12 (W:=nB g (n+1)+nB g n) (by omega) (X:=(List.range (nB g n)).map (bdA g m u n)) (by omega) (fun i hi=>by
  rw[hXr i (by omega)]
  exact⟨ZlE,(Zjj m2 _ _ _ _).append (Zep m2 _ _)⟩)
 have hM:Sp m (nB g (n+1)+nB g n) (Gn (fun i=>row ((List.range (nB g n)).map (bdA g m u n)) (i:Int)) ((List.range (nB g n)).map (bdA g m u n)).length)=Sp m (nB g (n+1)+nB g n) (Gn (bdA g m u n) (nB g n)):=by
  congr 1
  funext x
  apply propext
  rw[hX]
  constructor
  ·
   rintro⟨i,hi,rfl⟩;exact⟨i,hi,congrArg V (hXr i hi)⟩
  ·
   rintro⟨i,hi,rfl⟩;exact⟨i,hi,(congrArg V (hXr i hi)).symm⟩
 rw[hM]at h2
 have h3:=h2.lead (by omega)
 refine⟨p,?_,h3⟩
 have ht:=h3.tab
 have hl:=ht.len
 have w:wrapI ((nB g (n+1):Int)+(nB g n:Int))=((nB g (n+1)+nB g n:Nat):Int):=by rw[w64 (by omega) (by omega)];omega
 have hSd:=Zmi hg hm hn
 rw[ZQ.f_eq,wn (j:=n) (by omega),hc2,Option.bind_some,hc,Option.bind_some,hSd,Option.bind_some,w,h1,Option.bind_some,Int.toNat_natCast,Int.toNat_natCast]
 (with_reducible repeat (first|refine Zi (by first|assumption|omega|rfl|exact B_pos (by omega)) ?_|refine Zh (by first|assumption|omega|decide|exact B_not (by omega)) ?_|refine Zf (by first|assumption) ?_|dsimp only))
 rw[←hA,←hB]at hl ht w ⊢
 obtain⟨F,hF⟩:∃F:Nat→List Int,F=fun j:Nat=>(row p (j:Int)).take A:=⟨_,rfl⟩
 obtain⟨H,hH⟩:∃H:Nat→List Int,H=fun j:Nat=>(row p ((A+j:Nat):Int)).drop A:=⟨_,rfl⟩
 have loop1:=up A (fun k=>ZQ.l0 (A:Int) (B:Int) (k:Int) p ((List.range k).map F++List.replicate (A - k) []) (List.replicate B [])) (fun k hk=>by
  have rl:=ZfX F A k (by omega)
  have hFk:F k=(row p (k:Int)).take A:=by rw[hF]
  rw[ZQ.l0_eq,wn (j:=k) (by omega),w]
  simp only[Int.toNat_natCast]
  rw[←hFk]
  by_cases hr:row p (k:Int)=[]
  ·
   have e0:((row p (k:Int)).length:Int)=0:=by rw[hr];rfl
   rw[←ZeW F A k hk (by rw[hFk,hr];simp)]
   ((with_reducible repeat (first|refine Zi (by first|assumption|omega|rfl|exact B_pos (by omega)) ?_|refine Zh (by first|assumption|omega|decide|exact B_not (by omega)) ?_|refine Zf (by first|assumption) ?_|dsimp only));first|done|(with_reducible rfl)|simp (disch:=omega) only[w64]|(show False;done))
  ·
   have hP:=ht.prow (show k < A+B by omega) hr
   have e1:=hP.len
   rw[←ZeX F A k hk]
   ((with_reducible repeat (first|refine Zi (by first|assumption|omega|rfl|exact B_pos (by omega)) ?_|refine Zh (by first|assumption|omega|decide|exact B_not (by omega)) ?_|refine Zf (by first|assumption) ?_|dsimp only));first|done|(with_reducible rfl)|simp (disch:=omega) only[w64]|(show False;done)))
 have loop2:=up B (fun k=>ZQ.l0 (A:Int) (B:Int) ((A+k:Nat):Int) p ((List.range A).map F) ((List.range k).map H++List.replicate (B - k) [])) (fun k hk=>by
  have rl:=ZfX H B k (by omega)
  have hw:wrapI (((A+k:Nat):Int) - (A:Int))=(k:Int):=by rw[w64 (by omega) (by omega)];omega
  have hHk:H k=(row p ((A+k:Nat):Int)).drop A:=by rw[hH]
  rw[show A+(k+1)=A+k+1 from rfl,ZQ.l0_eq,wn (j:=A+k) (by omega),w,hw]
  simp only[Int.toNat_natCast]
  rw[←hHk]
  by_cases hr:row p ((A+k:Nat):Int)=[]
  ·
   have e0:((row p ((A+k:Nat):Int)).length:Int)=0:=by rw[hr];rfl
   rw[←ZeW H B k hk (by rw[hHk,hr];simp)]
   ((with_reducible repeat (first|refine Zi (by first|assumption|omega|rfl|exact B_pos (by omega)) ?_|refine Zh (by first|assumption|omega|decide|exact B_not (by omega)) ?_|refine Zf (by first|assumption) ?_|dsimp only));first|done|(with_reducible rfl)|simp (disch:=omega) only[w64]|(show False;done))
  ·
   have hP:=ht.prow (show A+k < A+B by omega) hr
   have e1:=hP.len
   rw[←ZeX H B k hk]
   ((with_reducible repeat (first|refine Zi (by first|assumption|omega|rfl|exact B_pos (by omega)) ?_|refine Zh (by first|assumption|omega|decide|exact B_not (by omega)) ?_|refine Zf (by first|assumption) ?_|dsimp only));first|done|(with_reducible rfl)|simp (disch:=omega) only[w64]|(show False;done)))
 rw[List.range_zero,List.map_nil,List.nil_append,Nat.sub_zero,Nat.sub_self,List.replicate_zero,List.append_nil]at loop1
 rw[List.range_zero,List.map_nil,List.nil_append,Nat.sub_zero,Nat.add_zero,Nat.sub_self,List.replicate_zero,List.append_nil]at loop2
 rw[show ZbP p A B=(List.range B).map H by rw[hH];rfl,show Zef p A=(List.range A).map F by rw[hF];rfl]
 refine(loop1.trans loop2).trans ?_
 rw[ZQ.l0_eq,w]
 ((with_reducible repeat (first|refine Zi (by first|assumption|omega|rfl|exact B_pos (by omega)) ?_|refine Zh (by first|assumption|omega|decide|exact B_not (by omega)) ?_|refine Zf (by first|assumption) ?_|dsimp only));first|done|(with_reducible rfl)|simp (disch:=omega) only[w64]|(show False;done))
theorem Both_ {g:List (List Int)} (hg:Grp g) {m:Int} {u:List Int} (hm:Mdl g m u) {n:Nat} (hn:n≤3) :
  ∃p q,ZaH.f g m u (n:Int)=some (p,q)∧Lead m (nB g n) p (Sp m (nB g n) (bdG g m u n))∧Lead m (nB g n) q (coM g m u n):=by
 have m2:=hm.m2
 obtain⟨b1,b2⟩:=nA_bd hg (e:=n) (by omega)
 have hc:=Zes hg (d:=(n:Int)) (by omega) (by omega)
 rw[←b2]at hc
 obtain⟨p,h1,h2⟩:=Zlj hg hm hn
 rw[ZaH.f_eq,h1,Option.bind_some,hc,Option.bind_some,Int.toNat_natCast]
 cases n with
 | zero =>
  refine⟨_,_,?_,(Pst.none (G:=bdG g m u 0) fun g h=>h).lead (by omega),ZbX (by omega) h2⟩
  ((with_reducible repeat (first|refine Zi (by first|assumption|omega|rfl|exact B_pos (by omega)) ?_|refine Zh (by first|assumption|omega|decide|exact B_not (by omega)) ?_|refine Zf (by first|assumption) ?_|dsimp only));first|done|(with_reducible rfl)|simp (disch:=omega) only[w64]|(show False;done))
 | succ e =>
  obtain⟨p', h3,h4⟩:=Zlj hg hm (n:=e) (by omega)
  have w:wrapI (((e+1:Nat):Int) - 1)=(e:Int):=by rw[w64 (by omega) (by omega)];omega
  have h5:=h4.first (q:=Zef p' (nB g (e+1))) (by omega) (by simp[Zef]) fun j hj=>Zi9 hj
  refine⟨Zef p' (nB g (e+1)),_,?_,?_,ZbX (by omega) h2⟩
  ·
   rw[w]
   ((with_reducible repeat (first|refine Zi (by first|assumption|omega|rfl|exact B_pos (by omega)) ?_|refine Zh (by first|assumption|omega|decide|exact B_not (by omega)) ?_|refine Zf (by first|assumption) ?_|dsimp only));first|done|(with_reducible rfl)|simp (disch:=omega) only[w64]|(show False;done))
  ·
   have:(fun x=>∃y,Sp m (nB g (e+1)+nB g e) (Gn (bdA g m u e) (nB g e)) y∧∀i,i < nB g (e+1)→m∣y i - x i)=Sp m (nB g (e+1)) (bdG g m u (e+1)):=by
    funext x
    exact propext (ZiT (fun i hi=>ZbD ..) h4 h5.sub x)
   rw[this]at h5
   exact h5
noncomputable def allM (g:List (List Int)) (m:Int) (u:List Int) (e:Nat):Vc→Prop:=Sp m (nB g (e+1)+nB g e) (Gn (bdA g m u e) (nB g e))
end Go.Proofs.Ytdamfbighdkcbaa.V
namespace Go.Proofs.Ytdamfbighdkcbaa.V
open Go.RowKit Go.Proofs.Ytdamfbighdkcbaa.D Go.Proofs.Ytdamfbighdkcbaa.P
def Zbp (m:Int) (p:List (List Int)) (W:Nat):List Int:=(List.range W).map fun j=>m / dv m p j
theorem Zk6 {m:Int} (m2:2≤m) (m12:m≤12) {W:Nat} {p:List (List Int)} (ht:PTab m W p) {j:Nat} (hj:j < W) (hr:row p (j:Int)≠[]):wrapI (Int.tdiv m (T p (j:Int) (j:Int)))=m / dv m p j∧¬ T p (j:Int) (j:Int)=0:=by
 have hP:=ht.prow hj hr
 have p0:=hP.pos
 have e:dv m p j=rd (row p (j:Int)) (j:Int):=if_neg hr
 have hT:T p (j:Int) (j:Int)=rd (row p (j:Int)) (j:Int):=rfl
 rw[hT,e,Zf4 (by omega)]
 have d0:0≤m / rd (row p (j:Int)) (j:Int):=Int.ediv_nonneg (by omega) (by omega)
 have d1:m / rd (row p (j:Int)) (j:Int)≤m:=Int.ediv_le_self _ (by omega)
 exact⟨w64 (by omega) (by omega),by omega⟩
theorem Zlv {m:Int} (m2:2≤m) (m12:m≤12) {W:Nat} (hW:W≤100000) {p:List (List Int)} (ht:PTab m W p):ZC.f m p=some (Zbp m p W,m,p):=by
 have hl:=ht.len
 have l2:∀x:Int,([x]:List Int).length=1:=fun _=>rfl
 have sl:∀k,((List.range k).map fun j=>m / dv m p j).length=k:=fun k=>by simp
 have one:∀k:Nat,row p (k:Int)=[]→m / dv m p k=1:=fun k h=>by
  rw[show dv m p k=m from if_pos h];exact Int.ediv_self (by omega)
 rw[ZC.f_eq,hl]
 have loop:=up W (fun k=>ZC.l0 (W:Int) (k:Int) m p ((List.range k).map fun j=>m / dv m p j)) (fun k hk=>by
  have s1:=sl k
  rw[ZC.l0_eq,wn (j:=k) (by omega),List.range_succ,List.map_append,List.map_singleton]
  by_cases hr:row p (k:Int)=[]
  ·
   have e0:(row p (k:Int)).length=0:=by rw[hr];rfl
   rw[one k hr]
   (with_reducible repeat (first|refine Zi (by first|assumption|omega|rfl|exact B_pos (by omega)) ?_|refine Zh (by first|assumption|omega|decide|exact B_not (by omega)) ?_|refine Zf (by first|assumption) ?_|dsimp only))
   rw[l2]
   ((with_reducible repeat (first|refine Zi (by first|assumption|omega|rfl|exact B_pos (by omega)) ?_|refine Zh (by first|assumption|omega|decide|exact B_not (by omega)) ?_|refine Zf (by first|assumption) ?_|dsimp only));first|done|(with_reducible rfl)|simp (disch:=omega) only[w64]|(show False;done))
  ·
   obtain⟨e1,e2⟩:=Zk6 m2 m12 ht hk hr
   have hP:=ht.prow hk hr
   have pl:=hP.len
   rw[e1]
   (with_reducible repeat (first|refine Zi (by first|assumption|omega|rfl|exact B_pos (by omega)) ?_|refine Zh (by first|assumption|omega|decide|exact B_not (by omega)) ?_|refine Zf (by first|assumption) ?_|dsimp only))
   rw[l2]
   ((with_reducible repeat (first|refine Zi (by first|assumption|omega|rfl|exact B_pos (by omega)) ?_|refine Zh (by first|assumption|omega|decide|exact B_not (by omega)) ?_|refine Zf (by first|assumption) ?_|dsimp only));first|done|(with_reducible rfl)|simp (disch:=omega) only[w64]|(show False;done)))
 simp only[Int.natCast_zero,List.range_zero,List.map_nil]at loop
 rw[loop,ZC.l0_eq]
 (with_reducible repeat (first|refine Zi (by first|assumption|omega|rfl|exact B_pos (by omega)) ?_|refine Zh (by first|assumption|omega|decide|exact B_not (by omega)) ?_|refine Zf (by first|assumption) ?_|dsimp only))
 rfl
def lc (p:List (List Int)) (t:List Int):Nat→Vc
 | 0=>fun _=>0
 | k+1=>fun i=>lc p t k i+rd t (k:Int)*rd (row p (k:Int)) (i:Int)
theorem ZfC (p:List (List Int)) (t:List Int) (k i:Nat):lc p t (k+1) i=lc p t k i+rd t (k:Int)*rd (row p (k:Int)) (i:Int):=rfl
structure Least0 (m:Int) (W k:Nat) (p:List (List Int)) (M:Vc→Prop) (x y t:List Int):Prop where
 len:y.length=W
 ent:AllIn m y
 dif:M fun i=>rd x (i:Int) - rd y (i:Int)
 lt:∀j:Nat,j < k→rd y (j:Int) < dv m p j
 tlen:t.length=W
 tbd:∀j:Nat,j < W→0≤rd t (j:Int)∧rd t (j:Int)≤12
 tnil:∀j:Nat,row p (j:Int)=[]→rd t (j:Int)=0
 tak:∀i:Nat,i < W→m∣rd x (i:Int) - rd y (i:Int) - lc p t k i
 tlt:∀j:Nat,j < W→rd t (j:Int)*rd (row p (j:Int)) (j:Int) < m
theorem ZkT {p:List (List Int)} {t t' : List Int}:∀k,(∀j:Nat,j < k→rd t (j:Int)=rd t' (j:Int))→lc p t k=lc p t' k:=by
 intro k
 induction k with
 | zero=>intro _;rfl
 | succ k ih =>
  intro h
  funext i
  rw[lc,lc,ih fun j hj=>h j (by omega),h k (by omega)]
theorem Least0.begin {m:Int} {W:Nat} {p:List (List Int)} {M:Vc→Prop} (hM:Lead m W p M) {x:List Int} (hx:x.length=W) (ha:AllIn m x):Least0 m W 0 p M x x (List.replicate W 0) where
 len:=hx
 ent:=ha
 dif:=hM.sub.alike _ _ hM.sub.zero fun i _=>Zas (by simp)
 lt:=fun j hj=>by omega
 tlen:=List.length_replicate
 tbd:=fun j _=>by rw[Zbj];omega
 tnil:=fun j _=>Zbj _ _
 tak:=fun i _=>Zas (by simp[lc])
 tlt:=fun j hj=>by
  have:=ha (j:Int) (by omega) (by omega)
  rw[Zbj,Int.zero_mul];omega
theorem Least0.skip {m:Int} {W k:Nat} {p:List (List Int)} {M:Vc→Prop} {x y t:List Int} (h:Least0 m W k p M x y t) (hk:k < W) (hr:row p (k:Int)=[]):Least0 m W (k+1) p M x y t :=
  { h with
    lt := fun j hj=>by
      by_cases e:j=k
      · subst e
        rw[show dv m p j=m from if_pos hr]
        exact(h.ent j (by omega) (by rw[h.len];omega)).2
      · exact h.lt j (by omega)
    tak:=fun i hi=>by
      rw[ZfC,h.tnil k hr,Int.zero_mul,Int.add_zero]
      exact h.tak i hi }
theorem Least0.take {m:Int} {W k:Nat} {p:List (List Int)} {M:Vc→Prop} {x y t:List Int} (m2:2≤m) (m12:m≤12) (hM:Lead m W p M) (h:Least0 m W k p M x y t) (hk:k < W) (hr:row p (k:Int)≠[]) :
  Least0 m W (k+1) p M x (mix m 1 y (-(rd y (k:Int) / rd (row p (k:Int)) (k:Int))) (row p (k:Int))) (t.set k (rd y (k:Int) / rd (row p (k:Int)) (k:Int))):=by
 have hP:=hM.tab.prow hk hr
 have p0:=hP.pos
 have p1:=hP.lt
 have yl:=h.len
 have tl:=h.tlen
 obtain⟨y0,y1⟩:=h.ent k (by omega) (by omega)
 obtain⟨q,hq⟩:∃q,q=rd y (k:Int) / rd (row p (k:Int)) (k:Int):=⟨_,rfl⟩
 rw[←hq]
 have hmod:=Int.mul_ediv_add_emod (rd y (k:Int)) (rd (row p (k:Int)) (k:Int))
 rw[←hq]at hmod
 have r0:=Int.emod_nonneg (rd y (k:Int)) (show rd (row p (k:Int)) (k:Int)≠0 by omega)
 have r1:=Int.emod_lt_of_pos (rd y (k:Int)) p0
 have q0:0≤q:=by rw[hq];exact Int.ediv_nonneg y0 (by omega)
 have q1:q≤rd y (k:Int):=by rw[hq];exact Int.ediv_le_self _ y0
 have hy:∀i:Nat,i < W→m∣1*rd y (i:Int)+(-q)*rd (row p (k:Int)) (i:Int) - rd (mix m 1 y (-q) (row p (k:Int))) (i:Int):=fun i hi=>Zbf (by omega)
 refine⟨by rw[ZaS];exact yl,ZbR (by omega),?_,fun j hj => ?_,by rw[List.length_set];exact tl,fun j hj => ?_,fun j hn => ?_,fun i hi => ?_,fun j hj => ?_⟩
 ·
  refine hM.sub.alike _ _ (hM.sub.lin _ _ h.dif (hM.own k hk hr) q) fun i hi => ?_
  obtain⟨z,hz⟩:=hy i hi
  refine⟨-z,?_⟩
  rw[Int.mul_neg,←hz,Int.neg_mul]
  show rd x (i:Int) - rd y (i:Int)+q*rd (row p (k:Int)) (i:Int) - (rd x (i:Int) - rd (mix m 1 y (-q) (row p (k:Int))) (i:Int))=_
  omega
 ·
  by_cases e:j=k
  ·
   subst e
   rw[ZbE (by omega),show dv m p j=rd (row p (j:Int)) (j:Int)from if_neg hr,show 1*rd y (j:Int) + -q*rd (row p (j:Int)) (j:Int)=rd y (j:Int)%rd (row p (j:Int)) (j:Int)by rw[Int.neg_mul,Int.mul_comm q];omega,Int.emod_eq_of_lt r0 (by omega)]
   exact r1
  ·
   obtain⟨a0,a1⟩:=h.ent j (by omega) (by omega)
   rw[ZbE (by omega),hP.zero j (by omega),Int.mul_zero,Int.add_zero,Int.one_mul,Int.emod_eq_of_lt a0 a1]
   exact h.lt j (by omega)
 ·
  by_cases e:j=k
  ·
   subst e;rw[Za5 (by omega)];omega
  ·
   rw[Zbb e];exact h.tbd j hj
 ·
  have e:j≠k:=fun e=>hr (e ▸ hn)
  rw[Zbb e];exact h.tnil j hn
 ·
  rw[ZfC,Za5 (by omega),ZkT k fun j hj=>Zbb (show j≠k by omega)]
  obtain⟨z,hz⟩:=hy i hi
  obtain⟨z', hz'⟩:=h.tak i hi
  refine⟨z' + z,?_⟩
  rw[Int.mul_add,←hz,←hz', Int.neg_mul]
  omega
 ·
  by_cases e:j=k
  ·
   subst e
   rw[Za5 (by omega),Int.mul_comm]
   omega
  ·
   rw[Zbb e];exact h.tlt j hj
theorem Least0.fin {m:Int} {W:Nat} {p:List (List Int)} {M:Vc→Prop} {x y t:List Int} (h:Least0 m W W p M x y t):Least m W p M x y:=⟨h.len,h.ent,h.dif,h.lt⟩
def Zr (x:List Int):Prop:=∀i:Int,0≤i→i < x.length→rd x i=0
theorem Least.zero_iff {m:Int} (m0:0 < m) {W:Nat} {p:List (List Int)} {M:Vc→Prop} (hM:Lead m W p M) {x y:List Int} (h:Least m W p M x y):Zr y↔M (V x):=by
 have yl:=h.len
 constructor
 ·
  intro hz
  refine hM.sub.alike _ _ h.dif fun i hi => ?_
  rw[hz i (by omega) (by omega)]
  exact Zas (by simp[V])
 ·
  intro hx
  have hz:Least m W p M x (List.replicate W 0):=⟨List.length_replicate,Zf5 m0 W,hM.sub.alike _ _ hx fun i hi=>Zas (by rw[Zbj];simp[V]),fun j hj=>by rw[Zbj];exact(dv_bd m0 hM.tab hj).1⟩
  rw[h.same m0 hM hM hz]
  exact fun i _ _=>Zbj _ _
theorem rank {g:List (List Int)} (hl:g.length≤maxLen) (hr:∀r∈g,r.length≤maxLen) (m:Int) (u:List Int) (hu:u.length≤maxLen) (n:Int) :
  (∃k:Nat,n=(k:Int)∧k≤3∧Grp g∧Mdl g m u∧nB g k≤49∧Zaq.f g m u n=some 0∧ZaD.f g m u n=some 0) ∨
  ∃c:Int,¬ c=0∧Zaq.f g m u n=some c∧ZaD.f g m u n=some c:=by
 have hA:=Zg3 g hl hr m u hu
 have hS:=Is_ g
 rw[Zaq.f_eq,ZaD.f_eq]
 by_cases h:GM g m u
 rotate_left
 ·
  rw[B_neg h]at hA
  have hG:Z7.f g m u n=some 1:=by rw[Z7.f_eq];((with_reducible repeat (first|refine Zi (by first|assumption|omega|rfl|exact B_pos (by omega)) ?_|refine Zh (by first|assumption|omega|decide|exact B_not (by omega)) ?_|refine Zf (by first|assumption) ?_|dsimp only));first|done|(with_reducible rfl)|simp (disch:=omega) only[w64]|(show False;done))
  refine .inr ⟨1,by omega,by((with_reducible repeat (first|refine Zi (by first|assumption|omega|rfl|exact B_pos (by omega)) ?_|refine Zh (by first|assumption|omega|decide|exact B_not (by omega)) ?_|refine Zf (by first|assumption) ?_|dsimp only));first|done|(with_reducible rfl)|simp (disch:=omega) only[w64]|(show False;done)),?_⟩
  by_cases h1:Grp g
  ·
   have hM:=Is02 h1 m u hu
   rw[B_neg fun k=>h ⟨h1,k⟩]at hM
   ((with_reducible repeat (first|refine Zi (by first|assumption|omega|rfl|exact B_pos (by omega)) ?_|refine Zh (by first|assumption|omega|decide|exact B_not (by omega)) ?_|refine Zf (by first|assumption) ?_|dsimp only));first|done|(with_reducible rfl)|simp (disch:=omega) only[w64]|(show False;done))
  ·
   ((with_reducible repeat (first|refine Zi (by first|assumption|omega|rfl|exact B_pos (by omega)) ?_|refine Zh (by first|assumption|omega|decide|exact B_not (by omega)) ?_|refine Zf (by first|assumption) ?_|dsimp only));first|done|(with_reducible rfl)|simp (disch:=omega) only[w64]|(show False;done))
 have hM:=Is02 h.1 m u hu
 rw[B_pos h]at hA
 rw[B_pos h.1]at hS
 rw[B_pos h.2]at hM
 have hD:=ZkP n
 have hI:=In_ n 0 3
 by_cases h2:0≤n∧n≤3
 rotate_left
 ·
  rw[B_neg h2]at hD hI
  have hG:Z7.f g m u n=some 2:=by rw[Z7.f_eq];((with_reducible repeat (first|refine Zi (by first|assumption|omega|rfl|exact B_pos (by omega)) ?_|refine Zh (by first|assumption|omega|decide|exact B_not (by omega)) ?_|refine Zf (by first|assumption) ?_|dsimp only));first|done|(with_reducible rfl)|simp (disch:=omega) only[w64]|(show False;done))
  exact .inr ⟨2,by omega,by((with_reducible repeat (first|refine Zi (by first|assumption|omega|rfl|exact B_pos (by omega)) ?_|refine Zh (by first|assumption|omega|decide|exact B_not (by omega)) ?_|refine Zf (by first|assumption) ?_|dsimp only));first|done|(with_reducible rfl)|simp (disch:=omega) only[w64]|(show False;done)),by((with_reducible repeat (first|refine Zi (by first|assumption|omega|rfl|exact B_pos (by omega)) ?_|refine Zh (by first|assumption|omega|decide|exact B_not (by omega)) ?_|refine Zf (by first|assumption) ?_|dsimp only));first|done|(with_reducible rfl)|simp (disch:=omega) only[w64]|(show False;done))⟩
 rw[B_pos h2]at hD hI
 have hG:Z7.f g m u n=some 0:=by rw[Z7.f_eq];((with_reducible repeat (first|refine Zi (by first|assumption|omega|rfl|exact B_pos (by omega)) ?_|refine Zh (by first|assumption|omega|decide|exact B_not (by omega)) ?_|refine Zf (by first|assumption) ?_|dsimp only));first|done|(with_reducible rfl)|simp (disch:=omega) only[w64]|(show False;done))
 have hc:=Ze2 h.1 (d:=n) h2.1 (by omega)
 have hC:=Zes h.1 (d:=n) h2.1 (by omega)
 obtain⟨k,rfl⟩:=Int.eq_ofNat_of_zero_le h2.1
 obtain⟨b1,b2⟩:=nA_bd h.1 (e:=k) (by omega)
 have hR:Zax.f g (k:Int)=some (decide (cells g (k:Int)≤49)):=by rw[Zax.f_eq,hc];rfl
 by_cases h3:cells g (k:Int)≤49
 ·
  refine .inl ⟨k,rfl,by omega,h.1,h.2,by omega,?_,?_⟩
  ·
   rw[decide_eq_true h3]at hR
   ((with_reducible repeat (first|refine Zi (by first|assumption|omega|rfl|exact B_pos (by omega)) ?_|refine Zh (by first|assumption|omega|decide|exact B_not (by omega)) ?_|refine Zf (by first|assumption) ?_|dsimp only));first|done|(with_reducible rfl)|simp (disch:=omega) only[w64]|(show False;done))
  ·
   ((with_reducible repeat (first|refine Zi (by first|assumption|omega|rfl|exact B_pos (by omega)) ?_|refine Zh (by first|assumption|omega|decide|exact B_not (by omega)) ?_|refine Zf (by first|assumption) ?_|dsimp only));first|done|(with_reducible rfl)|simp (disch:=omega) only[w64]|(show False;done))
 ·
  refine .inr ⟨3,by omega,?_,?_⟩
  ·
   rw[decide_eq_false h3]at hR
   ((with_reducible repeat (first|refine Zi (by first|assumption|omega|rfl|exact B_pos (by omega)) ?_|refine Zh (by first|assumption|omega|decide|exact B_not (by omega)) ?_|refine Zf (by first|assumption) ?_|dsimp only));first|done|(with_reducible rfl)|simp (disch:=omega) only[w64]|(show False;done))
  ·
   ((with_reducible repeat (first|refine Zi (by first|assumption|omega|rfl|exact B_pos (by omega)) ?_|refine Zh (by first|assumption|omega|decide|exact B_not (by omega)) ?_|refine Zf (by first|assumption) ?_|dsimp only));first|done|(with_reducible rfl)|simp (disch:=omega) only[w64]|(show False;done))
end Go.Proofs.Ytdamfbighdkcbaa.V
namespace Go.Proofs.Ytdamfbighdkcbaa.V
open Go.RowKit Go.Proofs.Ytdamfbighdkcbaa.D
theorem nd_le {α : Type} [DecidableEq α]:∀{l m:List α},l.Nodup→(∀x∈l,x∈m)→l.length≤m.length
 | [],m,_,_=>Nat.zero_le _
 | x :: l,m,hn,hs=>by
  rw[List.nodup_cons]at hn
  have hx:=hs x List.mem_cons_self
  have:=nd_le (l:=l) (m:=m.erase x) hn.2 fun y hy=>(List.mem_erase_of_ne (fun e=>hn.1 (by rw[←e];exact hy))).2 (hs y (List.mem_cons_of_mem _ hy))
  rw[List.length_erase_of_mem hx]at this
  have:=List.length_pos_of_mem hx
  rw[List.length_cons]
  omega
end Go.Proofs.Ytdamfbighdkcbaa.V
namespace Go.Proofs.Ytdamfbighdkcbaa.V
open Go.RowKit Go.Proofs.Ytdamfbighdkcbaa.D
theorem rd_c0 (x:Int) (w:List Int):rd (x :: w) ((0:Nat):Int)=x:=by rw[Zec];rfl
theorem rd_cs (x:Int) (w:List Int) (i:Nat):rd (x :: w) ((i+1:Nat):Int)=rd w (i:Int):=by rw[Zec,Zec];rfl
theorem V_c0 (x:Int) (w:List Int):V (x :: w) 0=x:=rd_c0 x w
theorem V_cs (x:Int) (w:List Int) (i:Nat):V (x :: w) (i+1)=V w i:=rd_cs x w i
def boxl:List Nat→List (List Int)
 | []=>[[]]
 | d :: ds=>(List.range d).flatMap fun x:Nat=>(boxl ds).map fun v=>(x:Int) :: v
def prodN:List Nat→Nat
 | []=>1
 | d :: ds=>d*prodN ds
theorem Zen:∀{ds:List Nat} {v:List Int},v∈boxl ds↔v.length=ds.length∧∀i:Nat,i < ds.length→0≤rd v (i:Int)∧rd v (i:Int) < ((ds.getD i 0:Nat):Int)
 | [],v=>by
  rw[boxl,List.mem_singleton]
  exact⟨fun h=>by subst h;exact⟨rfl,fun i hi=>absurd hi (Nat.not_lt_zero _)⟩,fun h=>List.eq_nil_of_length_eq_zero h.1⟩
 | d :: ds,v=>by
  rw[boxl,List.mem_flatMap]
  constructor
  ·
   rintro⟨x,hx,hv⟩
   obtain⟨w,hw,rfl⟩:=List.mem_map.1 hv
   obtain⟨h1,h2⟩:=Zen.1 hw
   have hx:=List.mem_range.1 hx
   refine⟨by rw[List.length_cons,List.length_cons,h1],fun i hi => ?_⟩
   cases i with
   | zero=>rw[rd_c0];exact⟨by omega,by show(x:Int) < ((d:Nat):Int);omega⟩
   | succ i=>rw[rd_cs];exact h2 i (by rw[List.length_cons]at hi;omega)
  ·
   rintro⟨h1,h2⟩
   cases v with
   | nil=>rw[List.length_cons]at h1;exact absurd h1 (by simp)
   | cons y w =>
    rw[List.length_cons,List.length_cons]at h1
    obtain⟨y0,y1⟩:=h2 0 (by rw[List.length_cons];omega)
    rw[rd_c0]at y0 y1
    have y1:y < (d:Int):=y1
    refine⟨y.toNat,List.mem_range.2 (by omega),List.mem_map.2 ⟨w,Zen.2 ⟨by omega,fun i hi => ?_⟩,by rw[Int.toNat_of_nonneg y0]⟩⟩
    have:=h2 (i+1) (by rw[List.length_cons];omega)
    rw[rd_cs]at this
    exact this
theorem Zc1:∀ds:List Nat,(boxl ds).Nodup
 | []=>List.nodup_cons.2 ⟨fun h=>(by cases h),List.nodup_nil⟩
 | d :: ds=>by
  rw[boxl,List.Nodup,List.pairwise_flatMap]
  refine⟨fun x _ => ?_,?_⟩
  ·
   rw[List.pairwise_map]
   exact List.Pairwise.imp (fun {a b} h e=>h (List.cons.inj e).2) (Zc1 ds)
  ·
   refine List.Pairwise.imp (fun {x y} h a ha b hb e => ?_) (List.nodup_range (n:=d))
   obtain⟨_,_,rfl⟩:=List.mem_map.1 ha
   obtain⟨_,_,rfl⟩:=List.mem_map.1 hb
   have:=(List.cons.inj e).1
   omega
theorem ZfE {α β : Type} (F : α → List β) (n:Nat):∀l:List α,(∀x∈l,(F x).length=n)→(l.flatMap F).length=l.length*n
 | [],_=>by simp
 | x :: l,h=>by
  rw[List.flatMap_cons,List.length_append,ZfE F n l fun y hy=>h y (List.mem_cons_of_mem _ hy),h x List.mem_cons_self,List.length_cons,Nat.succ_mul]
  omega
theorem Zde:∀ds:List Nat,(boxl ds).length=prodN ds
 | []=>rfl
 | d :: ds=>by rw[boxl,ZfE _ (prodN ds) _ fun x _=>by rw[List.length_map,Zde ds],List.length_range];rfl
def vecs (m:Int) (W:Nat):List (List Int):=boxl (List.replicate W m.toNat)
theorem ZfH {m:Int} (m0:0 < m) {W:Nat} {v:List Int}:v∈vecs m W↔v.length=W∧AllIn m v:=by
 rw[vecs,Zen,List.length_replicate]
 refine and_congr_right fun hl => ?_
 have e:∀i:Nat,i < W→(((List.replicate W m.toNat).getD i 0:Nat):Int)=m:=fun i hi=>by
  rw[List.getD_eq_getElem?_getD,List.getElem?_replicate,if_pos hi,Option.getD_some];omega
 constructor
 ·
  intro h i i0 i1
  obtain⟨n,rfl⟩:=Int.eq_ofNat_of_zero_le i0
  have:=h n (by omega)
  rwa[e n (by omega)]at this
 ·
  intro h i hi
  rw[e i hi]
  exact h i (by omega) (by omega)
noncomputable def ctl (m:Int) (W:Nat) (P:List Int→Prop):List (List Int):=(vecs m W).filter fun v=>B (P v)
noncomputable def ct (m:Int) (W:Nat) (M:Vc→Prop):Nat:=(ctl m W fun v=>M (V v)).length
theorem Zbe {m:Int} (m0:0 < m) {W:Nat} {P:List Int→Prop} {v:List Int}:v∈ctl m W P↔(v.length=W∧AllIn m v)∧P v:=by
 rw[ctl,List.mem_filter,ZfH m0,B_iff]
theorem Zb2 (m:Int) (W:Nat) (P:List Int→Prop):(ctl m W P).Nodup:=(Zc1 _).filter _
theorem Zg4 {α β γ : Type} [DecidableEq γ] {A:List α} {C:List β} {L:List γ} (hA:A.Nodup) (hC:C.Nodup) (hL:L.Nodup) (f : α → β → γ) (h1:∀a∈A,∀c∈C,f a c∈L)
  (h2:∀a∈A,∀c∈C,∀a' ∈ A,∀c' ∈ C,f a c=f a' c' → a=a' ∧ c=c') (h3:∀v∈L,∃a∈A,∃c∈C,f a c=v):L.length=A.length*C.length:=by
 have hF:(A.flatMap fun a=>C.map fun c=>f a c).length=A.length*C.length:=ZfE _ _ _ fun a _=>List.length_map ..
 have hn:(A.flatMap fun a=>C.map fun c=>f a c).Nodup:=by
  rw[List.Nodup,List.pairwise_flatMap]
  refine⟨fun a ha => ?_,?_⟩
  ·
   rw[List.pairwise_map]
   exact List.Pairwise.imp_of_mem (fun {x y} hx hy h e=>h (h2 a ha x hx a ha y hy e).2) hC
  ·
   refine List.Pairwise.imp_of_mem (fun {a b} ha hb h x hx y hy e => ?_) hA
   obtain⟨c,hc,rfl⟩:=List.mem_map.1 hx
   obtain⟨c', hc', rfl⟩:=List.mem_map.1 hy
   exact h (h2 a ha c hc b hb c' hc' e).1
 rw[←hF]
 apply Nat.le_antisymm
 ·
  refine nd_le hL fun v hv => ?_
  obtain⟨a,ha,c,hc,e⟩:=h3 v hv
  exact List.mem_flatMap.2 ⟨a,ha,List.mem_map.2 ⟨c,hc,e⟩⟩
 ·
  refine nd_le hn fun v hv => ?_
  obtain⟨a,ha,hv⟩:=List.mem_flatMap.1 hv
  obtain⟨c,hc,rfl⟩:=List.mem_map.1 hv
  exact h1 a ha c hc
theorem ZlP {α γ : Type} [DecidableEq γ] {A:List α} {L:List γ} (hA:A.Nodup) (f : α → γ) (h1:∀a∈A,f a∈L) (h2:∀a∈A,∀b∈A,f a=f b→a=b):A.length≤L.length:=by
 have hn:(A.map f).Nodup:=by
  rw[List.Nodup,List.pairwise_map]
  exact List.Pairwise.imp_of_mem (fun {x y} hx hy h e=>h (h2 x hx y hy e)) hA
 have:=nd_le hn fun x hx=>by
  obtain⟨a,ha,rfl⟩:=List.mem_map.1 hx
  exact h1 a ha
 rwa[List.length_map]at this
def nf (m:Int) (W:Nat) (x:Vc):List Int:=(List.range W).map fun i:Nat=>x i%m
theorem Zfg (m:Int) (W:Nat) (x:Vc):(nf m W x).length=W:=by simp[nf]
theorem nf_rd {m:Int} {W:Nat} {x:Vc} {i:Nat} (h:i < W):rd (nf m W x) (i:Int)=x i%m:=by
 rw[Za4 (by rw[Zfg];exact h)]
 simp[nf]
theorem nf_in {m:Int} (m0:0 < m) (W:Nat) (x:Vc):AllIn m (nf m W x):=Zbq fun z hz=>by
 obtain⟨i,_,rfl⟩:=List.mem_map.1 hz
 exact⟨Int.emod_nonneg _ (by omega),Int.emod_lt_of_pos _ m0⟩
theorem ZcT {m:Int} {W:Nat} {x:Vc} {i:Nat} (h:i < W):m∣x i - V (nf m W x) i:=by
 rw[show V (nf m W x) i=x i%m from nf_rd h]
 exact Int.dvd_self_sub_emod
theorem Zbh {m a b:Int} (h:m∣a - b):m∣b - a:=by
 obtain⟨q,hq⟩:=h
 exact⟨-q,by rw[Int.mul_neg];omega⟩
theorem dvd_trans' {m a b c:Int} (h:m∣a - b) (k:m∣b - c):m∣a - c:=by
 have:=Int.dvd_add h k
 rwa[show a - b+(b - c)=a - c by omega]at this
theorem Sub.iff {m:Int} {W:Nat} {M:Vc→Prop} (hM:Sub m W M) {x y:Vc} (h:∀i,i < W→m∣x i - y i):M x↔M y:=⟨fun k=>hM.alike _ _ k h,fun k=>hM.alike _ _ k fun i hi=>Zbh (h i hi)⟩
theorem Zgz {m:Int} (m0:0 < m) {W:Nat} {M:Vc→Prop} (hM:Sub m W M) {x:Vc}:nf m W x∈ctl m W (fun v=>M (V v))↔M x:=by
 rw[Zbe m0]
 exact⟨fun h=>(hM.iff fun i hi=>ZcT hi).2 h.2,fun h=>⟨⟨Zfg ..,nf_in m0 _ _⟩,(hM.iff fun i hi=>ZcT hi).1 h⟩⟩
theorem Ze7 {m a b:Int} (h:m∣a - b):a%m=b%m:=(Int.emod_eq_emod_iff_emod_sub_eq_zero).2 (Int.emod_eq_zero_of_dvd h)
theorem ZdY {m:Int} (m0:0 < m) {W:Nat} {v w:List Int} (hv:v.length=W∧AllIn m v) (hw:w.length=W∧AllIn m w) (h:∀i,i < W→m∣V v i - V w i):v=w:=by
 refine Zh8 (by omega) fun i i0 i1 => ?_
 obtain⟨n,rfl⟩:=Int.eq_ofNat_of_zero_le i0
 have e:=Ze7 (h n (by omega))
 obtain⟨a0,a1⟩:=hv.2 n (by omega) (by omega)
 obtain⟨b0,b1⟩:=hw.2 n (by omega) (by omega)
 rwa[show V v n=rd v (n:Int)from rfl,show V w n=rd w (n:Int)from rfl,Int.emod_eq_of_lt a0 a1,Int.emod_eq_of_lt b0 b1]at e
theorem nf_eq {m:Int} {W:Nat} {x y:Vc} (h:nf m W x=nf m W y):∀i,i < W→m∣x i - y i:=fun i hi=>by
 have:=congrArg (fun l=>rd l (i:Int)) h
 rw[nf_rd hi,nf_rd hi]at this
 exact Int.dvd_of_emod_eq_zero ((Int.emod_eq_emod_iff_emod_sub_eq_zero).1 this)
theorem Zh2 {m:Int} {W:Nat} {M M' : Vc→Prop} (m0:0 < m) (h:∀x,M x↔M' x):ct m W M=ct m W M' := by
 rw[show M=M' from funext fun x=>propext (h x)]
theorem ZiG (m:Int) (W:Nat):(vecs m W).length=m.toNat ^ W:=by
 rw[vecs,Zde]
 induction W with
 | zero=>rfl
 | succ W ih=>rw[List.replicate_succ,prodN,ih,Nat.pow_succ,Nat.mul_comm]
theorem Zmj {m:Int} (W:Nat):ct m W (fun _=>True)=m.toNat ^ W:=by
 rw[←ZiG,ct,ctl]
 congr 1
 exact List.filter_eq_self.2 fun v _=>B_pos trivial
structure Aut (m:Int) (r:Nat) (T S:Vc→Vc):Prop where
 t1:∀x y c i,i < r→m∣T (fun i=>x i+c*y i) i - (T x i+c*T y i)
 s1:∀x y c i,i < r→m∣S (fun i=>x i+c*y i) i - (S x i+c*S y i)
 t2:∀x y,(∀i,i < r→m∣x i - y i)→∀i,i < r→m∣T x i - T y i
 s2:∀x y,(∀i,i < r→m∣x i - y i)→∀i,i < r→m∣S x i - S y i
 st:∀x i,i < r→m∣S (T x) i - x i
 ts:∀x i,i < r→m∣T (S x) i - x i
def ad (m:Int) (r:Nat) (d:Int) (M:Vc→Prop) (x:Vc):Prop:=∃l e:Vc,M l∧∀i,i < r→m∣l i+d*e i - x i
theorem ZhN {m:Int} {r:Nat} {d:Int} {M:Vc→Prop} (hM:Sub m r M):Sub m r (ad m r d M) where
 zero:=⟨_,fun _=>0,hM.zero,fun i _=>Zas (by simp)⟩
 lin:=fun x y ⟨l,e,h1,h2⟩ ⟨l', e', h3,h4⟩ c=>⟨_,fun i=>e i+c*e' i,hM.lin _ _ h1 h3 c,fun i hi=>by
  have:=Int.dvd_add (h2 i hi) (Int.dvd_mul_of_dvd_right (b:=c) (h4 i hi))
  show m∣l i+c*l' i+d*(e i+c*e' i) - (x i+c*y i)
  rw[show l i+d*e i - x i+c*(l' i+d*e' i - y i)=l i+c*l' i+d*(e i+c*e' i) - (x i+c*y i)by
   rw[Int.mul_add d,Int.mul_sub,Int.mul_add,Int.mul_left_comm d c];omega]at this
  exact this⟩
 alike:=fun x y ⟨l,e,h1,h2⟩ h=>⟨l,e,h1,fun i hi=>dvd_trans' (h2 i hi) (h i hi)⟩
theorem Zlm {m:Int} (m0:0 < m) {r r' : Nat} {M M' : Vc→Prop} (hM:Sub m r M) (hM' : Sub m r' M') (T:Vc→Vc) (h:∀x,M x→M' (T x)) (inj:∀x y,M x→M y→(∀i,i < r' → m∣T x i - T y i)→∀i,i < r→m∣x i - y i):ct m r M≤ct m r' M' := by
 refine ZlP (Zb2 ..) (fun v=>nf m r' (T (V v))) (fun v hv=>(Zgz m0 hM').2 (h _ ((Zbe m0).1 hv).2)) fun v hv w hw e => ?_
 obtain⟨a1,a2⟩:=(Zbe m0).1 hv
 obtain⟨b1,b2⟩:=(Zbe m0).1 hw
 exact ZdY m0 a1 b1 (inj _ _ a2 b2 (nf_eq e))
theorem Aut.ct {m:Int} (m0:0 < m) {r:Nat} {T S:Vc→Vc} (h:Aut m r T S) {M M' : Vc→Prop} (hM:Sub m r M) (hM' : Sub m r M') (h1:∀x,M x→M' (T x)) (h2:∀x,M' x→M (S x)) (d:Int):ct m r (ad m r d M)=ct m r (ad m r d M'):=by
 apply Nat.le_antisymm
 ·
  refine Zlm m0 (ZhN hM) (ZhN hM') T (fun x ⟨l,e,k1,k2⟩=>⟨T l,T e,h1 l k1,fun i hi => ?_⟩) fun x y _ _ e i hi => ?_
  ·
   exact dvd_trans' (Zbh (h.t1 l e d i hi)) (h.t2 _ _ k2 i hi)
  ·
   exact dvd_trans' (dvd_trans' (Zbh (h.st x i hi)) (h.s2 _ _ e i hi)) (h.st y i hi)
 ·
  refine Zlm m0 (ZhN hM') (ZhN hM) S (fun x ⟨l,e,k1,k2⟩=>⟨S l,S e,h2 l k1,fun i hi => ?_⟩) fun x y _ _ e i hi => ?_
  ·
   exact dvd_trans' (Zbh (h.s1 l e d i hi)) (h.s2 _ _ k2 i hi)
  ·
   exact dvd_trans' (dvd_trans' (Zbh (h.ts x i hi)) (h.t2 _ _ e i hi)) (h.ts y i hi)
theorem ZkG {m:Int} (m0:0 < m) {r:Nat} {n d:Int} (hn:n∣m) (hd:d∣m) (n0:0 < n) (d0:0 < d) {M M' : Vc→Prop} (hM' : Sub m r M') (h:∀x,M x↔n∣x 0∧M' (fun i=>x (i+1))):ct m (r+1) (ad m (r+1) d M)=(m / ((Int.gcd n d:Nat):Int)).toNat*ct m r (ad m r d M'):=by
 obtain⟨g,hg⟩:∃g,g=((Int.gcd n d:Nat):Int):=⟨_,rfl⟩
 have g0:0 < g:=by rw[hg];exact_mod_cast Int.gcd_pos_of_ne_zero_left d (by omega)
 have gn:g∣n:=by rw[hg];exact Int.gcd_dvd_left ..
 have gd:g∣d:=by rw[hg];exact Int.gcd_dvd_right ..
 have gm:g∣m:=Int.dvd_trans gn hn
 obtain⟨q,hq⟩:=gm
 have q0:0 < q:=by
  rcases Int.lt_or_le 0 q with h|h
  ·
   exact h
  ·
   have:=Int.mul_le_mul_of_nonneg_left h (Int.le_of_lt g0);omega
 have hmq:m / g=q:=by rw[hq];exact Int.mul_ediv_cancel_left _ (by omega)
 rw[←hg,hmq]
 have hr:q.toNat=(List.range q.toNat).length:=List.length_range.symm
 rw[hr]
 refine Zg4 (List.nodup_range) (Zb2 ..) (Zb2 ..) (fun(a:Nat) c=>(g*(a:Int)) :: c) (fun a ha c hc => ?_) (fun a ha c hc a' ha' c' hc' e => ?_) fun v hv => ?_
 ·
  have ha:=List.mem_range.1 ha
  obtain⟨⟨c1,c2⟩,l,e,c3,c4⟩:=(Zbe m0).1 hc
  have b0:0≤g*(a:Int):=Int.mul_nonneg (by omega) (by omega)
  have b1:g*(a:Int) < m:=by rw[hq];exact Int.mul_lt_mul_of_pos_left (by omega) g0
  refine(Zbe m0).2 ⟨⟨by rw[List.length_cons,c1],Zbq fun z hz => ?_⟩,?_⟩
  ·
   rcases List.mem_cons.1 hz with rfl|hz
   ·
    exact⟨b0,b1⟩
   ·
    exact c2.mem hz
  ·
   obtain⟨N,rfl⟩:=Int.eq_ofNat_of_zero_le (Int.le_of_lt n0)
   obtain⟨D', rfl⟩:=Int.eq_ofNat_of_zero_le (Int.le_of_lt d0)
   obtain⟨s,t,hst⟩:=bez N D'
   rw[show((Nat.gcd N D' : Nat):Int)=g from hg.symm]at hst
   refine⟨fun i=>if i=0 then s*(N:Int)*a else l (i - 1),fun i=>if i=0 then t*a else e (i - 1),(h _).2 ⟨?_,?_⟩,fun i hi => ?_⟩
   ·
    exact⟨s*a,by show s*(N:Int)*a=N*(s*a);rw[Int.mul_comm s,Int.mul_assoc]⟩
   ·
    exact c3
   ·
    cases i with
    | zero =>
     refine Zas ?_
     show s*(N:Int)*a+(D' : Int)*(t*a)=V (g*(a:Int) :: c) 0
     rw[V_c0,←hst,Int.add_mul,Int.mul_left_comm (D' : Int),Int.mul_assoc t]
    | succ i =>
     have:=c4 i (by omega)
     rw[V_cs]
     exact this
 ·
  have h1:=(List.cons.inj e).1
  exact⟨by have:=Int.eq_of_mul_eq_mul_left (show g≠0 by omega) h1;omega,(List.cons.inj e).2⟩
 ·
  obtain⟨⟨v1,v2⟩,l,e,v3,v4⟩:=(Zbe m0).1 hv
  cases v with
  | nil=>rw[List.length_nil]at v1;omega
  | cons y w =>
   rw[List.length_cons]at v1
   obtain⟨l1,l2⟩:=(h l).1 v3
   obtain⟨y0,y1⟩:=v2.mem (List.mem_cons_self)
   have gy:g∣y:=by
    have k:=v4 0 (by omega)
    rw[V_c0]at k
    have k1:=Int.dvd_sub (Int.dvd_add (Int.dvd_trans gn l1) (Int.dvd_mul_of_dvd_left (c:=e 0) gd)) (Int.dvd_trans ⟨q,hq⟩ k)
    rwa[show l 0+d*e 0 - (l 0+d*e 0 - y)=y by omega]at k1
   obtain⟨a,ha⟩:=gy
   have a0:0≤a:=by
    rcases Int.lt_or_le a 0 with h|h
    ·
     have:=Int.mul_le_mul_of_nonneg_left (show a ≤ -1 by omega) (Int.le_of_lt g0);omega
    ·
     exact h
   have a1:a < q:=by
    rcases Int.lt_or_le a q with h|h
    ·
     exact h
    ·
     have:=Int.mul_le_mul_of_nonneg_left h (Int.le_of_lt g0);omega
   refine⟨a.toNat,List.mem_range.2 (by omega),w,(Zbe m0).2 ⟨⟨by omega,Zbq fun z hz=>v2.mem (List.mem_cons_of_mem _ hz)⟩,_,fun i=>e (i+1),l2,fun i hi => ?_⟩,by rw[Int.toNat_of_nonneg a0,←ha]⟩
   have:=v4 (i+1) (by omega)
   rwa[V_cs]at this
def cmb (G:Nat→Vc) (c:Vc):Nat→Vc
 | 0=>fun _=>0
 | k+1=>fun i=>cmb G c k i+c k*G k i
theorem Zce (G:Nat→Vc) (c e:Vc) (t:Int) (i:Nat):∀k,cmb G (fun i=>c i+t*e i) k i=cmb G c k i+t*cmb G e k i
 | 0=>by simp[cmb]
 | k+1=>by
  show cmb G (fun i=>c i+t*e i) k i+(c k+t*e k)*G k i=cmb G c k i+c k*G k i+t*(cmb G e k i+e k*G k i)
  rw[Zce G c e t i k,Int.add_mul,Int.mul_add,Int.mul_assoc];omega
theorem ZcJ {m:Int} {G:Nat→Vc} {c e:Vc} (i:Nat):∀k,(∀j,j < k→m∣c j - e j)→m∣cmb G c k i - cmb G e k i
 | 0,_=>Zas (by simp[cmb])
 | k+1,h=>by
  have h1:=ZcJ (G:=G) i k fun j hj=>h j (by omega)
  have h2:=Int.dvd_add h1 (Int.dvd_mul_of_dvd_left (c:=G k i) (h k (by omega)))
  show m∣cmb G c k i+c k*G k i - (cmb G e k i+e k*G k i)
  rwa[Int.sub_mul,show ∀a b c d:Int,a - b+(c - d)=a+c - (b+d)from fun a b c d=>by omega]at h2
theorem ZhB {m:Int} {W r:Nat} {G:Nat→Vc} {X:Vc→Prop} (hX:Sub m W X):Sub m r fun c=>X (cmb G c r) where
 zero:=hX.alike _ _ hX.zero fun i _=>by
  have:=Zce G (fun _=>0) (fun _=>0) (-1) i r
  simp only[Int.mul_zero,Int.add_zero]at this
  exact Zas (by omega)
 lin:=fun x y h1 h2 c=>hX.alike _ _ (hX.lin _ _ h1 h2 c) fun i _=>Zas (by rw[Zce])
 alike:=fun x y h k=>hX.alike _ _ h fun i _=>ZcJ i r k
theorem Sub.neg {m:Int} {W:Nat} {M:Vc→Prop} (hM:Sub m W M) {x y:Vc} (hx:M x) (hy:M y):M fun i=>x i - y i:=hM.alike _ _ (hM.lin _ _ hx hy (-1)) fun i _=>Zas (by omega)
theorem fib {m:Int} (m0:0 < m) {W r:Nat} {G:Nat→Vc} {X:Vc→Prop} (hX:Sub m W X) (hz:∀x,X x→∃c,∀i,i < W→m∣cmb G c r i - x i) :
  ct m r (fun c=>X (cmb G c r))=ct m W X*ct m r (fun c=>∀i,i < W→m∣cmb G c r i):=by
 have hZ:Sub m W fun x=>∀i,i < W→m∣x i:=⟨fun i _=>Int.dvd_zero _,fun x y h k c i hi=>Int.dvd_add (h i hi) (Int.dvd_mul_of_dvd_right (k i hi)),fun x y h k i hi=>by
  have:=Int.dvd_sub (h i hi) (k i hi)
  rwa[show x i - (x i - y i)=y i by omega]at this⟩
 have hK:=ZhB (r:=r) (G:=G) hZ
 have hs:∀v:List Int,∃c:Vc,X (V v)→∀i,i < W→m∣cmb G c r i - V v i:=fun v=>by
  by_cases h:X (V v)
  ·
   obtain⟨c,hc⟩:=hz _ h;exact⟨c,fun _=>hc⟩
  ·
   exact⟨fun _=>0,fun k=>absurd k h⟩
 obtain⟨s,hs⟩:=Classical.axiomOfChoice hs
 refine Zg4 (Zb2 ..) (Zb2 ..) (Zb2 ..) (fun a c=>nf m r fun i=>s a i+1*V c i) (fun a ha c hc => ?_) (fun a ha c hc a' ha' c' hc' e => ?_) fun v hv => ?_
 ·
  obtain⟨a1,a2⟩:=(Zbe m0).1 ha
  obtain⟨c1,c2⟩:=(Zbe m0).1 hc
  refine(Zgz m0 (ZhB hX)).2 (hX.alike _ _ a2 fun i hi => ?_)
  rw[Zce,Int.one_mul]
  have:=Int.dvd_add (hs a a2 i hi) (c2 i hi)
  rw[show cmb G (s a) r i - V a i+cmb G (V c) r i=cmb G (s a) r i+cmb G (V c) r i - V a i by omega]at this
  exact Zbh this
 ·
  obtain⟨a1,a2⟩:=(Zbe m0).1 ha
  obtain⟨c1,c2⟩:=(Zbe m0).1 hc
  obtain⟨a1', a2'⟩:=(Zbe m0).1 ha'
  obtain⟨c1', c2'⟩:=(Zbe m0).1 hc'
  have k:=nf_eq e
  have ea:a=a' := ZdY m0 a1 a1' fun i hi=>by
   have k1:=ZcJ (m:=m) (G:=G) i r k
   rw[Zce,Zce,Int.one_mul,Int.one_mul]at k1
   have k2:=hs a a2 i hi
   have k3:=hs a' a2' i hi
   have k4:=c2 i hi
   have k5:=c2' i hi
   obtain⟨z1,e1⟩:=k1;obtain⟨z2,e2⟩:=k2;obtain⟨z3,e3⟩:=k3;obtain⟨z4,e4⟩:=k4;obtain⟨z5,e5⟩:=k5
   exact⟨z1 - z2+z3 - z4+z5,by rw[Int.mul_add,Int.mul_sub,Int.mul_add,Int.mul_sub];omega⟩
  subst ea
  exact⟨rfl,ZdY m0 c1 c1' fun i hi=>by
   have:=k i hi
   rwa[Int.one_mul,Int.one_mul,show ∀a b c:Int,a+b - (a+c)=b - c from fun a b c=>by omega]at this⟩
 ·
  obtain⟨v1,v2⟩:=(Zbe m0).1 hv
  obtain⟨a,ha⟩:∃a,a=nf m W (cmb G (V v) r):=⟨_,rfl⟩
  have am:a∈ctl m W (fun v=>X (V v)):=by rw[ha];exact(Zgz m0 hX).2 v2
  have a2:=((Zbe m0).1 am).2
  refine⟨a,am,nf m r fun i=>V v i+(-1)*s a i,(Zgz m0 hK).2 fun i hi => ?_,?_⟩
  ·
   rw[Zce]
   have k1:=hs a a2 i hi
   have k2:=ZcT (m:=m) (x:=cmb G (V v) r) hi
   rw[←ha]at k2
   have:=Int.dvd_sub k2 k1
   rwa[show ∀a b c:Int,a - b - (c - b)=a + -1*c from fun a b c=>by omega]at this
  ·
   refine ZdY m0 ⟨Zfg ..,nf_in m0 _ _⟩ v1 fun i hi => ?_
   have k1:=ZcT (m:=m) (x:=fun i=>s a i+1*V (nf m r fun i=>V v i+(-1)*s a i) i) hi
   have k2:=ZcT (m:=m) (x:=fun i=>V v i+(-1)*s a i) hi
   have:=Int.dvd_add k1 k2
   rw[show ∀a b c d:Int,a+1*b - c+(d + -1*a - b)=d - c from fun a b c d=>by omega]at this
   exact Zbh this
theorem ZkL {m:Int} (m2:2≤m) (m12:m≤12) {W:Nat} {p:List (List Int)} {M:Vc→Prop} (hM:Lead m W p M) {x:List Int} (hx:x.length=W) (ha:AllIn m x):∃y,Least m W p M x y:=by
 have key:∀k,k≤W→∃y t,Least0 m W k p M x y t:=by
  intro k
  induction k with
  | zero=>exact fun _=>⟨_,_,Least0.begin hM hx ha⟩
  | succ k ih =>
   intro hk
   obtain⟨y,t,h⟩:=ih (by omega)
   by_cases hr:row p (k:Int)=[]
   ·
    exact⟨_,_,h.skip (by omega) hr⟩
   ·
    exact⟨_,_,h.take m2 m12 hM (by omega) hr⟩
 obtain⟨y,t,h⟩:=key W (Nat.le_refl _)
 exact⟨y,h.fin⟩
noncomputable def dvl (m:Int) (p:List (List Int)) (W:Nat):List Nat:=(List.range W).map fun j=>(dv m p j).toNat
theorem ZlL (m:Int) (p:List (List Int)) (W:Nat):(dvl m p W).length=W:=by simp[dvl]
theorem Zjz {m:Int} (m2:2≤m) (m12:m≤12) {W:Nat} {p:List (List Int)} {M:Vc→Prop} (hM:Lead m W p M):m.toNat ^ W=ct m W M*prodN (dvl m p W):=by
 have m0:0 < m:=by omega
 rw[←ZiG,←Zde]
 have hb:∀c,c∈boxl (dvl m p W)↔c.length=W∧∀i:Nat,i < W→0≤rd c (i:Int)∧rd c (i:Int) < dv m p i:=fun c=>by
  rw[Zen,ZlL]
  refine and_congr_right fun _=>forall_congr' fun i=>forall_congr' fun hi => ?_
  rw[show(((dvl m p W).getD i 0:Nat):Int)=dv m p i by
   have:=(dv_bd m0 hM.tab hi).1
   simp[dvl,hi];omega]
 have hc:∀c∈boxl (dvl m p W),c.length=W∧AllIn m c:=fun c hc=>by
  obtain⟨h1,h2⟩:=(hb c).1 hc
  refine⟨h1,fun i i0 i1 => ?_⟩
  obtain⟨n,rfl⟩:=Int.eq_ofNat_of_zero_le i0
  have:=h2 n (by omega)
  have:=(dv_bd m0 hM.tab (show n < W by omega)).2.1
  omega
 refine Zg4 (Zb2 ..) (Zc1 _) (Zc1 _) (fun a c=>nf m W fun i=>V a i+1*V c i) (fun a ha c hc => ?_) (fun a ha c hc' a' ha' c' hc'' e => ?_) fun v hv => ?_
 ·
  exact(ZfH m0).2 ⟨Zfg ..,nf_in m0 _ _⟩
 ·
  obtain⟨a1,a2⟩:=(Zbe m0).1 ha
  obtain⟨a1', a2'⟩:=(Zbe m0).1 ha'
  have k:=nf_eq e
  obtain⟨x,hx⟩:∃x,x=nf m W fun i=>V a i+1*V c i:=⟨_,rfl⟩
  have key:∀a c,c∈boxl (dvl m p W)→M (V a)→(∀i,i < W→m∣V a i+1*V c i - V x i)→Least m W p M x c:=fun a c h1 h2 h3=>by
   obtain⟨c1,c2⟩:=(hb c).1 h1
   refine⟨c1,(hc c h1).2,hM.sub.alike _ _ h2 fun i hi => ?_,fun j hj=>(c2 j hj).2⟩
   have:=h3 i hi
   rwa[show V a i+1*V c i - V x i=V a i - (rd x (i:Int) - rd c (i:Int))by simp only[V];omega]at this
  have e1:=key a c hc' a2 fun i hi=>by rw[hx];exact ZcT (x:=fun i=>V a i+1*V c i) hi
  have e2:=key a' c' hc'' a2' fun i hi=>by rw[hx,e];exact ZcT (x:=fun i=>V a' i+1*V c' i) hi
  have ec:=e1.same m0 hM hM e2
  subst ec
  exact⟨ZdY m0 a1 a1' fun i hi=>by
   have:=k i hi
   rwa[show ∀a b c:Int,a+1*b - (c+1*b)=a - c from fun a b c=>by omega]at this,rfl⟩
 ·
  have v1:=(ZfH m0).1 hv
  obtain⟨y,hy⟩:=ZkL m2 m12 hM v1.1 v1.2
  refine⟨nf m W fun i=>rd v (i:Int) - rd y (i:Int),(Zgz m0 hM.sub).2 hy.dif,y,(hb y).2 ⟨hy.len,fun i hi=>⟨(hy.ent i (by omega) (by have:=hy.len;omega)).1,hy.lt i hi⟩⟩,ZdY m0 ⟨Zfg ..,nf_in m0 _ _⟩ v1 fun i hi => ?_⟩
  have k1:=ZcT (m:=m) (x:=fun i=>V (nf m W fun i=>rd v (i:Int) - rd y (i:Int)) i+1*V y i) hi
  have k2:=ZcT (m:=m) (x:=fun i=>rd v (i:Int) - rd y (i:Int)) hi
  have:=Int.dvd_add k1 k2
  rw[show V y i=rd y (i:Int)from rfl,show ∀a b c d:Int,a+1*b - c+(d - b - a)=d - c from fun a b c d=>by omega]at this
  exact Zbh this
end Go.Proofs.Ytdamfbighdkcbaa.V
namespace Go.Proofs.Ytdamfbighdkcbaa.V
open Go.RowKit Go.Proofs.Ytdamfbighdkcbaa.D
def Gl (rows:List (List Int)):Vc→Prop:=fun g=>∃r∈rows,g=V r
def Mx (m:Int) (W:Nat) (rows:List (List Int)):Vc→Prop:=Sp m W (Gl rows)
def Eqd (m:Int) (W:Nat) (M M' : Vc→Prop):Prop:=∀d,ct m W (ad m W d M)=ct m W (ad m W d M')
theorem Eqd.trans {m:Int} {W:Nat} {M M' M'' : Vc→Prop} (h:Eqd m W M M') (k:Eqd m W M' M''):Eqd m W M M'' := fun d=>(h d).trans (k d)
theorem Eqd.of {m:Int} {W:Nat} {M M' : Vc→Prop} (h:∀x,M x↔M' x):Eqd m W M M' := fun d=>by rw[show M=M' from funext fun x=>propext (h x)]
theorem Zmh {m:Int} {W:Nat} {rows:List (List Int)} {r:List Int} (h:r∈rows):Mx m W rows (V r) := .gen ⟨r,h,rfl⟩
theorem Mx_le {m:Int} {W:Nat} {rows rows' : List (List Int)} (h:∀r∈rows,Mx m W rows' (V r)) {x:Vc} (hx:Mx m W rows x):Mx m W rows' x:=hx.mono fun g ⟨r,hr,e⟩=>e ▸ h r hr
theorem Zdb {m:Int} {W:Nat} {rows rows' : List (List Int)} (h:∀r∈rows,Mx m W rows' (V r)) (h' : ∀r∈rows', Mx m W rows (V r)):Eqd m W (Mx m W rows) (Mx m W rows') := .of fun x=>⟨Mx_le h,Mx_le h'⟩
def pairT (a b:Nat) (p q s t:Int) (x:Vc):Vc:=fun i=>if i=a then p*x a+q*x b else if i=b then s*x a+t*x b else x i
theorem ZgO (a b:Nat) (p q s t:Int) (x y:Vc) (c:Int):pairT a b p q s t (fun i=>x i+c*y i)=fun i=>pairT a b p q s t x i+c*pairT a b p q s t y i:=by
 funext i
 unfold pairT
 by_cases h1:i=a
 ·
  rw[if_pos h1,if_pos h1,if_pos h1,Int.mul_add,Int.mul_add,Int.mul_add,Int.mul_left_comm c p,Int.mul_left_comm c q];omega
 ·
  rw[if_neg h1,if_neg h1,if_neg h1]
  by_cases h2:i=b
  ·
   rw[if_pos h2,if_pos h2,if_pos h2,Int.mul_add,Int.mul_add,Int.mul_add,Int.mul_left_comm c s,Int.mul_left_comm c t];omega
  ·
   rw[if_neg h2,if_neg h2,if_neg h2]
theorem ZeS {m:Int} {r a b:Nat} (ha:a < r) (hb:b < r) (p q s t:Int) {x y:Vc} (h:∀i,i < r→m∣x i - y i):∀i,i < r→m∣pairT a b p q s t x i - pairT a b p q s t y i:=fun i hi=>by
 have two:∀p q:Int,m∣p*x a+q*x b - (p*y a+q*y b):=fun p q=>by
  have:=Int.dvd_add (Int.dvd_mul_of_dvd_right (b:=p) (h a ha)) (Int.dvd_mul_of_dvd_right (b:=q) (h b hb))
  rwa[Int.mul_sub,Int.mul_sub,show ∀a b c d:Int,a - b+(c - d)=a+c - (b+d)from fun a b c d=>by omega]at this
 unfold pairT
 by_cases h1:i=a
 ·
  rw[if_pos h1,if_pos h1];exact two p q
 ·
  rw[if_neg h1,if_neg h1]
  by_cases h2:i=b
  ·
   rw[if_pos h2,if_pos h2];exact two s t
  ·
   rw[if_neg h2,if_neg h2];exact h i hi
theorem Zfi {a b:Nat} (hab:a≠b) {p q s t p' q' s' t' : Int} (e1:p' * p+q' * s=1) (e2:p' * q+q' * t=0) (e3:s' * p+t' * s=0) (e4:s' * q+t' * t=1) (x:Vc):pairT a b p' q' s' t' (pairT a b p q s t x)=x:=by
 have ea:pairT a b p q s t x a=p*x a+q*x b:=if_pos rfl
 have eb:pairT a b p q s t x b=s*x a+t*x b:=by unfold pairT;rw[if_neg (by omega),if_pos rfl]
 have two:∀p' q' : Int,p' * (p*x a+q*x b)+q' * (s*x a+t*x b)=(p' * p+q' * s)*x a+(p' * q+q' * t)*x b:=fun p' q' => by
  rw[Int.mul_add,Int.mul_add,Int.add_mul,Int.add_mul,Int.mul_assoc,Int.mul_assoc,Int.mul_assoc,Int.mul_assoc];omega
 funext i
 rw[pairT,ea,eb,two,two,e1,e2,e3,e4]
 by_cases h1:i=a
 ·
  rw[if_pos h1,h1];omega
 ·
  rw[if_neg h1]
  by_cases h2:i=b
  ·
   rw[if_pos h2,h2];omega
  ·
   rw[if_neg h2,pairT,if_neg h1,if_neg h2]
theorem ZgN {m:Int} {r a b:Nat} (hab:a≠b) (ha:a < r) (hb:b < r) {p q s t p' q' s' t' : Int} (e1:p' * p+q' * s=1) (e2:p' * q+q' * t=0) (e3:s' * p+t' * s=0) (e4:s' * q+t' * t=1)
  (f1:p*p' + q*s' = 1) (f2:p*q' + q*t' = 0) (f3:s*p' + t*s' = 0) (f4:s*q' + t*t' = 1):Aut m r (pairT a b p q s t) (pairT a b p' q' s' t') where
 t1:=fun x y c i _=>Zas (by rw[ZgO])
 s1:=fun x y c i _=>Zas (by rw[ZgO])
 t2:=fun x y h=>ZeS ha hb _ _ _ _ h
 s2:=fun x y h=>ZeS ha hb _ _ _ _ h
 st:=fun x i _=>Zas (by rw[Zfi hab e1 e2 e3 e4])
 ts:=fun x i _=>Zas (by rw[Zfi hab f1 f2 f3 f4])
theorem Zlh {m:Int} {W:Nat} {rows rows' : List (List Int)} {T S:Vc→Vc} (h:Aut m W T S) (hr:∀r∈rows,∃r' ∈ rows', ∀i,i < W→m∣T (V r) i - V r' i) {x:Vc} (hx:Mx m W rows x):Mx m W rows' (T x):=by
 induction hx with
 | nil =>
  refine .alike .nil fun i hi => ?_
  have:=h.t1 (fun _=>0) (fun _=>0) (-1) i hi
  rw[show(fun i:Nat=>(0:Int) + -1*0)=fun _=>0 from funext fun _=>by omega]at this
  obtain⟨q,hq⟩:=this
  exact⟨-q,by rw[Int.mul_neg];omega⟩
 | @add x0 g0 c _ hg ih =>
  obtain⟨r,hr1,rfl⟩:=hg
  obtain⟨r', h1,h2⟩:=hr r hr1
  refine .alike (.add c ih ⟨r', h1,rfl⟩) fun i hi => ?_
  have k1:=h.t1 x0 (V r) c i hi
  have k2:=Int.dvd_mul_of_dvd_right (b:=c) (h2 i hi)
  have:=Int.dvd_add k1 k2
  rw[Int.mul_sub]at this
  exact Zbh (by rwa[show ∀a b c d:Int,a - (b+c)+(c - d)=a - (b+d)from fun a b c d=>by omega]at this)
 | alike _ h' ih=>exact .alike ih (h.t2 _ _ h')
theorem Aut.symm {m:Int} {r:Nat} {T S:Vc→Vc} (h:Aut m r T S):Aut m r S T:=⟨h.s1,h.t1,h.s2,h.t2,h.ts,h.st⟩
theorem Zlg {m:Int} (m0:0 < m) {W:Nat} {rows rows' : List (List Int)} {T S:Vc→Vc} (h:Aut m W T S) (hl:rows'.length=rows.length) (hr:∀k:Nat,k < rows.length→∀i,i < W→m∣T (V (row rows (k:Int))) i - V (row rows' (k:Int)) i):Eqd m W (Mx m W rows) (Mx m W rows'):=by
 refine fun d=>h.ct m0 Sp.sub Sp.sub (fun x hx=>Zlh h (fun r hr' => ?_) hx) (fun x hx=>Zlh h.symm (fun r hr' => ?_) hx) d
 ·
  obtain⟨k,k0,k1,rfl⟩:=Zdm hr'
  obtain⟨n,rfl⟩:=Int.eq_ofNat_of_zero_le k0
  exact⟨_,ZdX k0 (by omega),hr n (by omega)⟩
 ·
  obtain⟨k,k0,k1,rfl⟩:=Zdm hr'
  obtain⟨n,rfl⟩:=Int.eq_ofNat_of_zero_le k0
  refine⟨_,ZdX k0 (by omega),fun i hi => ?_⟩
  exact dvd_trans' (Zbh (h.s2 _ _ (hr n (by omega)) i hi)) (h.st _ i hi)
def gq (m d n:Int):Nat:=(m / ((Int.gcd n d:Nat):Int)).toNat
def Dg (m:Int) (r:Nat) (M:Vc→Prop) (ns:List Int):Prop:=∀d,0 < d→d∣m→ct m r (ad m r d M)=prodN (ns.map fun n=>gq m d n)
theorem Dg.eqd {m:Int} {r:Nat} {M M' : Vc→Prop} {ns:List Int} (h:Dg m r M' ns) (k:Eqd m r M M'):Dg m r M ns:=fun d d0 hd=>(k d).trans (h d d0 hd)
theorem Dg.nil {m:Int} (m0:0 < m) {M:Vc→Prop} (hM:Sub m 0 M):Dg m 0 M []:=fun d _ _=>by
 have:ctl m 0 (fun v=>ad m 0 d M (V v))=[[]]:=by
  have h:(vecs m 0)=[[]]:=rfl
  rw[ctl,h,List.filter_cons,B_pos (show ad m 0 d M (V [])from⟨_,fun _=>0,hM.zero,fun i hi=>absurd hi (Nat.not_lt_zero _)⟩)]
  rfl
 rw[ct,this]
 rfl
theorem Dg.cons {m:Int} (m0:0 < m) {r:Nat} {n:Int} (hn:n∣m) (n0:0 < n) {M M' : Vc→Prop} {ns:List Int} (hM' : Sub m r M') (h:∀x,M x↔n∣x 0∧M' (fun i=>x (i+1))) (k:Dg m r M' ns):Dg m (r+1) M (n :: ns):=fun d d0 hd=>by
 rw[ZkG m0 hn hd n0 d0 hM' h,k d d0 hd]
 rfl
theorem Dg.zero {m:Int} (m0:0 < m):∀r:Nat,Dg m r (fun x=>∀i,i < r→m∣x i) (List.replicate r m)
 | 0 => .nil m0 ⟨fun i hi=>absurd hi (Nat.not_lt_zero _),fun _ _ _ _ _ i hi=>absurd hi (Nat.not_lt_zero _),fun _ _ _ _ i hi=>absurd hi (Nat.not_lt_zero _)⟩
 | r+1=>by
  rw[List.replicate_succ]
  refine .cons m0 (Int.dvd_refl m) m0 (M' := fun x=>∀i,i < r→m∣x i) ⟨fun i _=>Int.dvd_zero _,fun x y h k c i hi=>Int.dvd_add (h i hi) (Int.dvd_mul_of_dvd_right (k i hi)),fun x y h k i hi => ?_⟩ (fun x=>⟨fun h=>⟨h 0 (by omega),fun i hi=>h (i+1) (by omega)⟩,fun h i hi => ?_⟩) (Dg.zero m0 r)
  ·
   have:=Int.dvd_sub (h i hi) (k i hi)
   rwa[show x i - (x i - y i)=y i by omega]at this
  ·
   cases i with
   | zero=>exact h.1
   | succ i=>exact h.2 i (by omega)
theorem ZlC {m:Int} {W:Nat} {rows:List (List Int)} (h:∀r∈rows,∀i,i < W→V r i=0) (x:Vc):Mx m W rows x↔∀i,i < W→m∣x i:=by
 constructor
 ·
  intro hx i hi
  exact Sp.dvd (Int.dvd_refl m) hi (fun g ⟨r,hr,e⟩=>by rw[e,h r hr i hi];exact Int.dvd_zero m) hx
 ·
  intro hx
  exact .alike .nil fun i hi=>Zbh (by rw[Int.sub_zero];exact hx i hi)
theorem ZlB {m:Int} {W:Nat} {f:List Int} {rest:List (List Int)} {n:Int} (hn:n∣m) (h0:V f 0=n) (hf:∀i,0 < i→i < W+1→V f i=0) (hr:∀r∈rest,V r 0=0) (x:Vc) :
  Mx m (W+1) (f :: rest) x↔n∣x 0∧Mx m W (rest.map fun r=>r.drop 1) (fun i=>x (i+1)):=by
 have hd:∀r:List Int,V (r.drop 1)=fun i=>V r (i+1):=fun r=>by
  funext i
  rw[V,V,Zec,Zec,List.getD_eq_getElem?_getD,List.getD_eq_getElem?_getD,List.getElem?_drop,Nat.add_comm]
 constructor
 ·
  intro hx
  induction hx with
  | nil=>exact⟨Int.dvd_zero n,.nil⟩
  | add c _ hg ih =>
   obtain⟨r,hr', rfl⟩:=hg
   rcases List.mem_cons.1 hr' with rfl|hr'
   ·
    refine⟨Int.dvd_add ih.1 ⟨c,by rw[h0,Int.mul_comm]⟩,.alike ih.2 fun i hi=>Zas ?_⟩
    show _=_+c*V r (i+1)
    rw[hf (i+1) (by omega) (by omega)];omega
   ·
    refine⟨Int.dvd_add ih.1 (by rw[hr r hr', Int.mul_zero];exact Int.dvd_zero n),?_⟩
    exact .alike (.add c ih.2 ⟨_,List.mem_map.2 ⟨r,hr', rfl⟩,rfl⟩) fun i _=>Zas (by rw[hd])
  | alike _ h ih =>
   refine⟨?_,.alike ih.2 fun i hi=>h (i+1) (by omega)⟩
   have:=Int.dvd_sub ih.1 (Int.dvd_trans hn (h 0 (by omega)))
   rwa[show ∀a b:Int,a - (a - b)=b from fun a b=>by omega]at this
 ·
  rintro⟨⟨q,hq⟩,hx⟩
  have key:∀y,Mx m W (rest.map fun r=>r.drop 1) y→Mx m (W+1) (f :: rest) (fun i=>if i=0 then 0 else y (i - 1)):=fun y hy=>by
   induction hy with
   | nil=>exact .alike .nil fun i _=>Zas (by split <;> rfl)
   | add c _ hg ih =>
    obtain⟨r', hr', rfl⟩:=hg
    obtain⟨r,hr2,rfl⟩:=List.mem_map.1 hr'
    refine .alike (.add c ih ⟨r,List.mem_cons_of_mem _ hr2,rfl⟩) fun i _=>Zas ?_
    cases i with
    | zero=>show(if 0=0 then(0:Int)else _)+c*V r 0=_;rw[if_pos rfl,if_pos rfl,hr r hr2];omega
    | succ i=>rw[if_neg (by omega),if_neg (by omega),hd,Nat.add_sub_cancel]
   | alike _ h ih =>
    refine .alike ih fun i hi => ?_
    cases i with
    | zero=>exact Zas (by rw[if_pos rfl,if_pos rfl])
    | succ i=>rw[if_neg (by omega),if_neg (by omega),Nat.add_sub_cancel];exact h i (by omega)
  refine .alike (.add q (key _ hx) ⟨f,List.mem_cons_self,rfl⟩) fun i hi=>Zas ?_
  cases i with
  | zero=>rw[if_pos rfl,h0,hq,Int.mul_comm];omega
  | succ i=>rw[if_neg (by omega),hf (i+1) (by omega) hi,Nat.add_sub_cancel];omega
theorem Zmy {m:Int} (m0:0 < m) {W r:Nat} {Z Bs:Vc→Prop} {G:Nat→Vc} (hZ:Sub m W Z) (hB:Sub m W Bs) (hG:∀x,Z x↔∃c,∀i,i < W→m∣cmb G c r i - x i) (hBZ:∀x,Bs x→Z x) {L:Vc→Prop} (hL:∀c,L c↔Bs (cmb G c r)) (d:Int) :
  ct m r (ad m r d L)*ct m W Z=m.toNat ^ r*ct m W (fun x=>∃b z,Bs b∧Z z∧∀i,i < W→m∣b i+d*z i - x i):=by
 have hLs:Sub m r L:=by rw[show L=fun c=>Bs (cmb G c r)from funext fun c=>propext (hL c)];exact ZhB hB
 have hX:Sub m W (fun x=>∃b z,Bs b∧Z z∧∀i,i < W→m∣b i+d*z i - x i):=⟨⟨_,_,hB.zero,hZ.zero,fun i _=>Zas (by simp)⟩,fun x y ⟨b,z,h1,h2,h3⟩ ⟨b', z', k1,k2,k3⟩ c=>⟨_,_,hB.lin _ _ h1 k1 c,hZ.lin _ _ h2 k2 c,fun i hi=>by
  have:=Int.dvd_add (h3 i hi) (Int.dvd_mul_of_dvd_right (b:=c) (k3 i hi))
  rwa[show b i+d*z i - x i+c*(b' i+d*z' i - y i)=b i+c*b' i+d*(z i+c*z' i) - (x i+c*y i)by
   rw[Int.mul_add d,Int.mul_sub,Int.mul_add,Int.mul_left_comm d c];omega]at this⟩,fun x y ⟨b,z,h1,h2,h3⟩ h=>⟨b,z,h1,h2,fun i hi=>dvd_trans' (h3 i hi) (h i hi)⟩⟩
 have mem:∀c:Vc,Z (cmb G c r):=fun c=>(hG _).2 ⟨c,fun i _=>Zas rfl⟩
 have e1:=fib m0 (r:=r) (G:=G) hX fun x ⟨b,z,h1,h2,h3⟩=>(hG x).1 (hZ.alike _ _ (hZ.lin _ _ (hBZ _ h1) h2 d) h3)
 have e2:=fib m0 (r:=r) (G:=G) hZ fun x hx=>(hG x).1 hx
 have e3:ct m r (fun c=>Z (cmb G c r))=m.toNat ^ r:=by rw[←Zmj];exact Zh2 m0 fun c=>⟨fun _=>trivial,fun _=>mem c⟩
 have e4:ct m r (ad m r d L)=ct m r (fun c=>∃b z,Bs b∧Z z∧∀i,i < W→m∣b i+d*z i - cmb G c r i):=Zh2 m0 fun c=>by
  constructor
  ·
   rintro⟨l,e,h1,h2⟩
   refine⟨_,_,(hL l).1 h1,mem e,fun i _ => ?_⟩
   have:=ZcJ (m:=m) (G:=G) i r h2
   rwa[Zce]at this
  ·
   rintro⟨b,z,h1,h2,h3⟩
   obtain⟨e,he⟩:=(hG z).1 h2
   refine⟨fun i=>c i+(-d)*e i,e,(hL _).2 (hB.alike _ _ h1 fun i hi => ?_),fun i _=>Zas (by show c i + -d*e i+d*e i=c i;rw[Int.neg_mul];omega)⟩
   rw[Zce,Int.neg_mul]
   have k1:=h3 i hi
   have k2:=Int.dvd_mul_of_dvd_right (b:=d) (he i hi)
   have:=Int.dvd_add k1 k2
   rw[Int.mul_sub]at this
   rwa[show ∀a b c e:Int,a+b - c+(e - b)=a - (c + -e)from fun a b c e=>by omega]at this
 rw[e4,e1,←e3,e2]
 simp only[Nat.mul_assoc,Nat.mul_comm,Nat.mul_left_comm]
end Go.Proofs.Ytdamfbighdkcbaa.V
namespace Go.Proofs.Ytdamfbighdkcbaa.V
open Go.RowKit Go.Proofs.Ytdamfbighdkcbaa.D
def nn (p:List (List Int)) (W:Nat):List Nat:=(List.range W).filter fun j=>decide (row p (j:Int)≠[])
def gen (p:List (List Int)) (at_:List Nat):Nat→Vc:=fun k=>V (row p ((at_.getD k 0:Nat):Int))
def pick (at_:List Nat) (t:List Int):List Int:=at_.map fun j:Nat=>rd t (j:Int)
theorem ZkY (at_:List Nat) (t:List Int):(pick at_ t).length=at_.length:=List.length_map ..
theorem Zhy {at_:List Nat} {t:List Int} {k:Nat} (h:k < at_.length):rd (pick at_ t) (k:Int)=rd t ((at_.getD k 0:Nat):Int):=by
 rw[Za4 (by rw[ZkY];exact h),List.getD_eq_getElem?_getD,List.getElem?_eq_getElem h]
 simp[pick]
theorem Zlt {p:List (List Int)} {W j:Nat}:j∈nn p W↔j < W∧row p (j:Int)≠[]:=by
 rw[nn,List.mem_filter,List.mem_range,decide_eq_true_iff]
theorem ZjP (p:List (List Int)) (W:Nat):nn p (W+1)=nn p W++if row p (W:Int)≠[]then [W]else []:=by
 rw[nn,List.range_succ,List.filter_append,←nn]
 congr 1
 by_cases h:row p (W:Int)≠[]
 ·
  rw[if_pos h];simp[h]
 ·
  rw[if_neg h];simp[Classical.not_not.1 h]
theorem nn_at {p:List (List Int)} {W k:Nat} (h:k < (nn p W).length):(nn p W).getD k 0 < W∧row p (((nn p W).getD k 0:Nat):Int)≠[]:=by
 rw[List.getD_eq_getElem?_getD,List.getElem?_eq_getElem h]
 exact Zlt.1 (List.getElem_mem h)
theorem Zgi {G G' : Nat→Vc} {c c' : Vc}:∀n,(∀k,k < n→c k=c' k∧G k=G' k)→cmb G c n=cmb G' c' n
 | 0,_=>rfl
 | n+1,h=>by
  funext i
  rw[cmb,cmb,Zgi n fun k hk=>h k (by omega),(h n (by omega)).1,(h n (by omega)).2]
theorem Zlq (p:List (List Int)) (t:List Int):∀W,lc p t W=cmb (gen p (nn p W)) (V (pick (nn p W) t)) (nn p W).length
 | 0=>rfl
 | W + 1=>by
  have ih:=Zlq p t W
  rw[ZjP]
  by_cases h:row p (W:Int)≠[]
  ·
   rw[if_pos h,List.length_append,List.length_singleton]
   funext i
   rw[ZfC,cmb,ih]
   have e1:cmb (gen p (nn p W)) (V (pick (nn p W) t)) (nn p W).length=cmb (gen p (nn p W++[W])) (V (pick (nn p W++[W]) t)) (nn p W).length:=Zgi _ fun k hk=>by
    have e:(nn p W++[W]).getD k 0=(nn p W).getD k 0:=by
     rw[List.getD_eq_getElem?_getD,List.getD_eq_getElem?_getD,List.getElem?_append_left hk]
    constructor
    ·
     show rd _ (k:Int)=rd _ (k:Int)
     rw[Zhy hk,Zhy (by rw[List.length_append];omega),e]
    ·
     rw[gen,gen,e]
   have e2:(nn p W++[W]).getD (nn p W).length 0=W:=by
    rw[List.getD_eq_getElem?_getD,List.getElem?_append_right (Nat.le_refl _),Nat.sub_self];rfl
   have e3:V (pick (nn p W++[W]) t) (nn p W).length=rd t (W:Int):=by
    show rd _ (((nn p W).length:Nat):Int)=_
    rw[Zhy (by simp),e2]
   rw[e1,e3,gen,e2]
   rfl
  ·
   rw[if_neg h,List.append_nil]
   funext i
   rw[ZfC,ih,Classical.not_not.1 h,show rd ([]:List Int) (i:Int)=0 by rw[Zec];rfl]
   omega
theorem Sub.cmb {m:Int} {W:Nat} {M:Vc→Prop} (hM:Sub m W M) {G:Nat→Vc} {c:Vc}:∀n,(∀k,k < n→M (G k))→M (cmb G c n)
 | 0,_=>hM.zero
 | n+1,h=>hM.lin _ _ (Sub.cmb hM n fun k hk=>h k (by omega)) (h n (by omega)) _
theorem ZfD {m:Int} (m2:2≤m) (m12:m≤12) {W:Nat} {p:List (List Int)} {M:Vc→Prop} (hM:Lead m W p M) (x:Vc):M x↔∃c,∀i,i < W→m∣cmb (gen p (nn p W)) c (nn p W).length i - x i:=by
 have m0:0 < m:=by omega
 constructor
 ·
  intro hx
  have hl:=Zfg m W x
  have key:∀k,k≤W→∃y t,Least0 m W k p M (nf m W x) y t:=by
   intro k
   induction k with
   | zero=>exact fun _=>⟨_,_,Least0.begin hM hl (nf_in m0 W x)⟩
   | succ k ih =>
    intro hk
    obtain⟨y,t,h⟩:=ih (by omega)
    by_cases hr:row p (k:Int)=[]
    ·
     exact⟨_,_,h.skip (by omega) hr⟩
    ·
     exact⟨_,_,h.take m2 m12 hM (by omega) hr⟩
  obtain⟨y,t,h⟩:=key W (Nat.le_refl _)
  have hz:Zr y:=(h.fin.zero_iff m0 hM).2 (hM.sub.alike _ _ hx fun i hi=>ZcT hi)
  refine⟨V (pick (nn p W) t),fun i hi => ?_⟩
  have h1:=h.tak i hi
  have h2:=ZcT (m:=m) (x:=x) hi
  rw[hz i (by omega) (by have:=h.len;omega),Zlq]at h1
  have:=Int.dvd_add h1 h2
  rw[show V (nf m W x) i=rd (nf m W x) (i:Int)from rfl,show ∀a b c:Int,a - 0 - b+(c - a)=c - b from fun a b c=>by omega]at this
  exact Zbh this
 ·
  rintro⟨c,hc⟩
  exact hM.sub.alike _ _ (hM.sub.cmb _ fun k hk=>hM.own _ (nn_at hk).1 (nn_at hk).2) hc
end Go.Proofs.Ytdamfbighdkcbaa.V
namespace Go.Proofs.Ytdamfbighdkcbaa.V
open Go.RowKit Go.Proofs.Ytdamfbighdkcbaa.D Go.Proofs.Ytdamfbighdkcbaa.P
def Rok (m:Int) (W:Nat) (r:List (List Int)):Prop:=∀i:Nat,i < r.length→(row r (i:Int)).length=W∧AllIn m (row r (i:Int))
theorem Rok.set {m:Int} {W:Nat} {r:List (List Int)} (h:Rok m W r) {j:Nat} {x:List Int} (hx:x.length=W∧AllIn m x):Rok m W (r.set j x):=fun i hi=>by
 rw[List.length_set]at hi
 by_cases e:i=j
 ·
  subst e;rw[ZaN hi];exact hx
 ·
  rw[ZaT e];exact h i hi
theorem Zc5 (r:List (List Int)) (j:Nat):r.set j (row r (j:Int))=r:=by
 by_cases h:j < r.length
 ·
  rw[Za0 h];exact List.set_getElem_self h
 ·
  exact List.set_eq_of_length_le (by omega)
theorem Rok.bd {m:Int} {W:Nat} {r:List (List Int)} (h:Rok m W r) {i k:Nat} (hi:i < r.length) (hk:k < W):0≤rd (row r (i:Int)) (k:Int)∧rd (row r (i:Int)) (k:Int) < m:=(h i hi).2 k (by omega) (by have:=(h i hi).1;omega)
theorem Zbd {m:Int} {W:Nat} {r:List (List Int)} {i:Nat} (h:i < r.length):Mx m W r (V (row r (i:Int))):=Zmh (ZdX (by omega) (by omega))
theorem Mx_same' {m:Int} {W:Nat} {r r' : List (List Int)} (hl:r'.length=r.length) (h:∀i:Nat,i < r.length→Mx m W r' (V (row r (i:Int)))) (h' : ∀i:Nat,i < r.length→Mx m W r (V (row r' (i:Int)))):Eqd m W (Mx m W r) (Mx m W r'):=by
 refine Zdb (fun x hx => ?_) fun x hx => ?_
 ·
  obtain⟨i,i0,i1,rfl⟩:=Zdm hx
  obtain⟨n,rfl⟩:=Int.eq_ofNat_of_zero_le i0
  exact h n (by omega)
 ·
  obtain⟨i,i0,i1,rfl⟩:=Zdm hx
  obtain⟨n,rfl⟩:=Int.eq_ofNat_of_zero_le i0
  exact h' n (by omega)
theorem mix_V {m:Int} (m0:0 < m) {W:Nat} {M:Vc→Prop} {x y:Int} {a b:List Int} (ha:a.length=W) (hA:Sub m W M) (h1:M (V a)) (h2:M (V b)):M (V (mix m x a y b)):=by
 refine hA.alike _ _ (hA.lin _ _ (hA.lin _ _ hA.zero h1 x) h2 y) fun i hi => ?_
 have:=Zbf (m:=m) (x:=x) (a:=a) (y:=y) (b:=b) (i:=i) (by omega)
 show m∣0+x*rd a (i:Int)+y*rd b (i:Int) - rd (mix m x a y b) (i:Int)
 rwa[Int.zero_add]
theorem Zl7 {m:Int} (m0:0 < m) {W:Nat} {r:List (List Int)} (h:Rok m W r) {i j:Nat} (hi:i < r.length) (hj:j < r.length) (hij:i≠j) (y:Int):Eqd m W (Mx m W r) (Mx m W (r.set i (mix m 1 (row r (i:Int)) y (row r (j:Int))))):=by
 have hl:(r.set i (mix m 1 (row r (i:Int)) y (row r (j:Int)))).length=r.length:=List.length_set
 have hjr:Mx m W (r.set i (mix m 1 (row r (i:Int)) y (row r (j:Int)))) (V (row r (j:Int))):=by
  have:=Zbd (m:=m) (W:=W) (r:=r.set i (mix m 1 (row r (i:Int)) y (row r (j:Int)))) (i:=j) (by omega)
  rwa[ZaT (Ne.symm hij)]at this
 refine Mx_same' hl (fun k hk => ?_) fun k hk => ?_
 ·
  by_cases e:k=i
  ·
   subst e
   have h1:=Zbd (m:=m) (W:=W) (r:=r.set k (mix m 1 (row r (k:Int)) y (row r (j:Int)))) (i:=k) (by omega)
   rw[ZaN hk]at h1
   refine Sp.two (a:=1) (b := -y) h1 hjr fun i hi => ?_
   have:=Zbf (m:=m) (x:=1) (a:=row r (k:Int)) (y:=y) (b:=row r (j:Int)) (i:=i) (by have:=(h k hk).1;omega)
   obtain⟨q,hq⟩:=this
   refine⟨-q,?_⟩
   rw[Int.mul_neg,←hq,Int.neg_mul]
   show 1*rd (mix m 1 (row r (k:Int)) y (row r (j:Int))) (i:Int) + -(y*rd (row r (j:Int)) (i:Int)) - rd (row r (k:Int)) (i:Int)=_
   omega
  ·
   have:=Zbd (m:=m) (W:=W) (r:=r.set i (mix m 1 (row r (i:Int)) y (row r (j:Int)))) (i:=k) (by omega)
   rwa[ZaT e]at this
 ·
  by_cases e:k=i
  ·
   subst e
   rw[ZaN hk]
   exact mix_V m0 (h k hk).1 Sp.sub (Zbd hk) (Zbd hj)
  ·
   rw[ZaT e];exact Zbd hk
theorem Zir {m:Int} (m0:0 < m) {W:Nat} {r:List (List Int)} (h:Rok m W r) {i:Nat} (hi:i < r.length) {u v:Int} (huv:m∣u*v - 1) (b:List Int):Eqd m W (Mx m W r) (Mx m W (r.set i (mix m u (row r (i:Int)) 0 b))):=by
 have hl:(r.set i (mix m u (row r (i:Int)) 0 b)).length=r.length:=List.length_set
 refine Mx_same' hl (fun k hk => ?_) fun k hk => ?_
 ·
  by_cases e:k=i
  ·
   subst e
   have h1:=Zbd (m:=m) (W:=W) (r:=r.set k (mix m u (row r (k:Int)) 0 b)) (i:=k) (by omega)
   rw[ZaN hk]at h1
   refine .alike (h1.mul v) fun i hi => ?_
   have:=Zbf (m:=m) (x:=u) (a:=row r (k:Int)) (y:=0) (b:=b) (i:=i) (by have:=(h k hk).1;omega)
   obtain⟨q,hq⟩:=this
   obtain⟨s,hs⟩:=huv
   refine⟨-(v*q)+s*rd (row r (k:Int)) (i:Int),?_⟩
   show v*rd (mix m u (row r (k:Int)) 0 b) (i:Int) - rd (row r (k:Int)) (i:Int)=_
   have e1:v*(u*rd (row r (k:Int)) (i:Int)+0*rd b (i:Int) - rd (mix m u (row r (k:Int)) 0 b) (i:Int))=v*(m*q):=by rw[hq]
   have e2:(u*v - 1)*rd (row r (k:Int)) (i:Int)=m*s*rd (row r (k:Int)) (i:Int):=by rw[hs]
   rw[Int.zero_mul,Int.add_zero,Int.mul_sub,←Int.mul_assoc]at e1
   rw[Int.sub_mul,Int.one_mul,Int.mul_comm u v]at e2
   rw[Int.mul_add,Int.mul_neg,Int.mul_left_comm m v q,←Int.mul_assoc m s]
   omega
  ·
   have:=Zbd (m:=m) (W:=W) (r:=r.set i (mix m u (row r (i:Int)) 0 b)) (i:=k) (by omega)
   rwa[ZaT e]at this
 ·
  by_cases e:k=i
  ·
   subst e
   rw[ZaN hk]
   refine .alike ((Zbd (m:=m) (W:=W) hk).mul u) fun i hi => ?_
   have:=Zbf (m:=m) (x:=u) (a:=row r (k:Int)) (y:=0) (b:=b) (i:=i) (by have:=(h k hk).1;omega)
   rwa[Int.zero_mul,Int.add_zero]at this
  ·
   rw[ZaT e];exact Zbd hk
theorem Zk2 {m:Int} {W:Nat} {r:List (List Int)} {i j:Nat} (hi:i < r.length) (hj:j < r.length):Eqd m W (Mx m W r) (Mx m W ((r.set i (row r (j:Int))).set j (row r (i:Int)))):=by
 have hl:((r.set i (row r (j:Int))).set j (row r (i:Int))).length=r.length:=by rw[List.length_set,List.length_set]
 have hr:∀k:Nat,row ((r.set i (row r (j:Int))).set j (row r (i:Int))) (k:Int)=if k=j then row r (i:Int)else if k=i then row r (j:Int)else row r (k:Int):=fun k=>by
  by_cases e:k=j
  ·
   subst e;rw[if_pos rfl,ZaN (by rw[List.length_set];exact hj)]
  ·
   rw[if_neg e,ZaT e]
   by_cases e2:k=i
   ·
    subst e2;rw[if_pos rfl,ZaN hi]
   ·
    rw[if_neg e2,ZaT e2]
 refine Mx_same' hl (fun k hk => ?_) fun k hk => ?_
 ·
  have own:∀n:Nat,n < r.length→Mx m W ((r.set i (row r (j:Int))).set j (row r (i:Int))) (V (row ((r.set i (row r (j:Int))).set j (row r (i:Int))) (n:Int))):=fun n hn=>Zbd (by omega)
  by_cases e:k=i
  ·
   have:=own j hj
   rw[hr,if_pos rfl]at this
   rw[e];exact this
  ·
   by_cases e2:k=j
   ·
    have:=own i hi
    rw[hr]at this
    by_cases e3:i=j
    ·
     exact absurd (e2.trans e3.symm) e
    ·
     rw[if_neg e3,if_pos rfl]at this
     rw[e2];exact this
   ·
    have:=own k hk
    rwa[hr,if_neg e2,if_neg e]at this
 ·
  rw[hr]
  split
  ·
   exact Zbd hi
  ·
   split
   ·
    exact Zbd hj
   ·
    exact Zbd hk
theorem Zk1 {m:Int} (m0:0 < m) {W:Nat} {r:List (List Int)} (h:Rok m W r) {i j:Nat} (hi:i < r.length) (hj:j < r.length) (hij:i≠j) {p q s t p' q' s' t' : Int} (e1:p' * p+q' * s=1) (e2:p' * q+q' * t=0) (e3:s' * p+t' * s=0) (e4:s' * q+t' * t=1) :
  Eqd m W (Mx m W r) (Mx m W ((r.set j (mix m s (row r (i:Int)) t (row r (j:Int)))).set i (mix m p (row r (i:Int)) q (row r (j:Int))))):=by
 obtain⟨A,hA⟩:∃A,A=mix m p (row r (i:Int)) q (row r (j:Int)):=⟨_,rfl⟩
 obtain⟨C,hC⟩:∃C,C=mix m s (row r (i:Int)) t (row r (j:Int)):=⟨_,rfl⟩
 rw[←hA,←hC]
 have hl:((r.set j C).set i A).length=r.length:=by rw[List.length_set,List.length_set]
 have ra:row ((r.set j C).set i A) (i:Int)=A:=ZaN (by rw[List.length_set];exact hi)
 have rc:row ((r.set j C).set i A) (j:Int)=C:=by rw[ZaT (Ne.symm hij),ZaN hj]
 have ro:∀k:Nat,k≠i→k≠j→row ((r.set j C).set i A) (k:Int)=row r (k:Int):=fun k h1 h2=>by rw[ZaT h1,ZaT h2]
 have mA:=Zbd (m:=m) (W:=W) (r:=(r.set j C).set i A) (i:=i) (by omega)
 have mC:=Zbd (m:=m) (W:=W) (r:=(r.set j C).set i A) (i:=j) (by omega)
 rw[ra]at mA
 rw[rc]at mC
 have dA:∀k:Nat,k < W→m∣p*rd (row r (i:Int)) (k:Int)+q*rd (row r (j:Int)) (k:Int) - rd A (k:Int):=fun k hk=>by rw[hA];exact Zbf (by have:=(h i hi).1;omega)
 have dC:∀k:Nat,k < W→m∣s*rd (row r (i:Int)) (k:Int)+t*rd (row r (j:Int)) (k:Int) - rd C (k:Int):=fun k hk=>by rw[hC];exact Zbf (by have:=(h i hi).1;omega)
 have lin:∀a b x y u v:Int,a*(p*x+q*y - u)+b*(s*x+t*y - v)=(a*p+b*s)*x+(a*q+b*t)*y - (a*u+b*v):=fun a b x y u v=>by
  rw[Int.mul_sub,Int.mul_sub,Int.mul_add,Int.mul_add,Int.add_mul,Int.add_mul,Int.mul_assoc,Int.mul_assoc,Int.mul_assoc,Int.mul_assoc];omega
 refine Mx_same' hl (fun k hk => ?_) fun k hk => ?_
 ·
  by_cases ei:k=i
  ·
   subst ei
   refine Sp.two (a:=p') (b:=q') mA mC fun n hn => ?_
   have:=Int.dvd_add (Int.dvd_mul_of_dvd_right (b:=p') (dA n hn)) (Int.dvd_mul_of_dvd_right (b:=q') (dC n hn))
   rw[lin,e1,e2,Int.one_mul,Int.zero_mul,Int.add_zero]at this
   exact Zbh this
  ·
   by_cases ej:k=j
   ·
    subst ej
    refine Sp.two (a:=s') (b:=t') mA mC fun n hn => ?_
    have:=Int.dvd_add (Int.dvd_mul_of_dvd_right (b:=s') (dA n hn)) (Int.dvd_mul_of_dvd_right (b:=t') (dC n hn))
    rw[lin,e3,e4,Int.one_mul,Int.zero_mul,Int.zero_add]at this
    exact Zbh this
   ·
    have:=Zbd (m:=m) (W:=W) (r:=(r.set j C).set i A) (i:=k) (by omega)
    rwa[ro k ei ej]at this
 ·
  by_cases ei:k=i
  ·
   rw[ei,ra,hA];exact mix_V m0 (h i hi).1 Sp.sub (Zbd hi) (Zbd hj)
  ·
   by_cases ej:k=j
   ·
    rw[ej,rc,hC];exact mix_V m0 (h i hi).1 Sp.sub (Zbd hi) (Zbd hj)
   ·
    rw[ro k ei ej];exact Zbd hk
def updR (f:List Int→List Int) (r:List (List Int)) (j:Nat):List (List Int):=(r.take j).map f++r.drop j
theorem Zkq (f:List Int→List Int) (r:List (List Int)):updR f r 0=r:=rfl
theorem Zle (f:List Int→List Int) (r:List (List Int)):updR f r r.length=r.map f:=by rw[updR,List.take_length,List.drop_length,List.append_nil]
theorem ZiF (f:List Int→List Int) (r:List (List Int)) (j:Nat):(updR f r j).length=r.length:=by
 rw[updR,List.length_append,List.length_map,←List.length_append,List.take_append_drop]
theorem Zlf (f:List Int→List Int) (r:List (List Int)) {j:Nat} (hj:j < r.length):row (updR f r j) (j:Int)=row r (j:Int):=by
 rw[Za0 (by rw[ZiF];exact hj),Za0 hj]
 simp only[updR]
 rw[List.getElem_append_right (by simp;omega)]
 simp
 congr 1
 omega
theorem Zkp (f:List Int→List Int) (r:List (List Int)) {j:Nat} (hj:j < r.length):(updR f r j).set j (f (row r (j:Int)))=updR f r (j+1):=by
 have hl:((r.take j).map f).length=j:=by simp;omega
 rw[updR,updR,List.set_append_right _ _ (by omega),hl,Nat.sub_self,List.take_add_one,List.map_append,List.append_assoc]
 congr 1
 rw[List.getElem?_eq_getElem hj,List.drop_eq_getElem_cons hj,Za0 hj,List.set_cons_zero]
 rfl
theorem Zdl (f:List Int→List Int) (r:List (List Int)) {j:Nat} (hj:j < r.length):row (r.map f) (j:Int)=f (row r (j:Int)):=by
 rw[Za0 (by rw[List.length_map];exact hj),Za0 hj,List.getElem_map]
def colf (m:Int) (k:Nat) (s t u v:Int) (x:List Int):List Int:=(x.set 0 ((s*rd x 0+t*rd x (k:Int))%m)).set k ((u*rd x 0+v*rd x (k:Int))%m)
theorem ZkD (m:Int) (k:Nat) (s t u v:Int) (x:List Int):(colf m k s t u v x).length=x.length:=by rw[colf,List.length_set,List.length_set]
theorem ZlI {m:Int} (m0:0 < m) (k:Nat) (s t u v:Int) {x:List Int} (hx:AllIn m x):AllIn m (colf m k s t u v x):=Zbq fun z hz=>by
 rcases List.mem_or_eq_of_mem_set hz with h|h
 ·
  rcases List.mem_or_eq_of_mem_set h with h|h
  ·
   exact hx.mem h
  ·
   rw[h];exact⟨Int.emod_nonneg _ (by omega),Int.emod_lt_of_pos _ m0⟩
 ·
  rw[h];exact⟨Int.emod_nonneg _ (by omega),Int.emod_lt_of_pos _ m0⟩
theorem Zjt {m:Int} {k:Nat} {s t u v:Int} {x:List Int} (k0:0 < k) (hk:k < x.length) (i:Nat):rd (colf m k s t u v x) (i:Int)=if i=0 then(s*rd x 0+t*rd x (k:Int))%m else if i=k then(u*rd x 0+v*rd x (k:Int))%m else rd x (i:Int):=by
 unfold colf
 by_cases e:i=0
 ·
  subst e;rw[if_pos rfl,Zbb (by omega),Za5 (by omega)]
 ·
  rw[if_neg e]
  by_cases e2:i=k
  ·
   subst e2;rw[if_pos rfl,Za5 (by rw[List.length_set];exact hk)]
  ·
   rw[if_neg e2,Zbb e2,Zbb e]
theorem ZkC {m:Int} (m0:0 < m) {W:Nat} {r:List (List Int)} (h:Rok m W r) {k:Nat} (k0:0 < k) (hk:k < W) {p q s t p' q' s' t' : Int} (e1:p' * p+q' * s=1) (e2:p' * q+q' * t=0) (e3:s' * p+t' * s=0) (e4:s' * q+t' * t=1)
  (f1:p*p' + q*s' = 1) (f2:p*q' + q*t' = 0) (f3:s*p' + t*s' = 0) (f4:s*q' + t*t' = 1):Eqd m W (Mx m W r) (Mx m W (r.map (colf m k p q s t))):=by
 refine Zlg m0 (ZgN (r:=W) (a:=0) (b:=k) (by omega) (by omega) hk e1 e2 e3 e4 f1 f2 f3 f4) (List.length_map ..) fun n hn i hi => ?_
 rw[Zdl _ _ hn]
 show m∣pairT 0 k p q s t (V (row r (n:Int))) i - rd (colf m k p q s t (row r (n:Int))) (i:Int)
 rw[Zjt k0 (by rw[(h n hn).1];exact hk),pairT]
 by_cases e:i=0
 ·
  rw[if_pos e,if_pos e];exact Int.dvd_self_sub_emod
 ·
  rw[if_neg e,if_neg e]
  by_cases e2:i=k
  ·
   rw[if_pos e2,if_pos e2];exact Int.dvd_self_sub_emod
  ·
   rw[if_neg e2,if_neg e2];exact Zas rfl
theorem Rok.colf {m:Int} (m0:0 < m) {W:Nat} {r:List (List Int)} (h:Rok m W r) (k:Nat) (p q s t:Int):Rok m W (r.map (V.colf m k p q s t)):=fun i hi=>by
 rw[List.length_map]at hi
 rw[Zdl _ _ hi]
 exact⟨by rw[ZkD];exact(h i hi).1,ZlI m0 _ _ _ _ _ (h i hi).2⟩
end Go.Proofs.Ytdamfbighdkcbaa.V
