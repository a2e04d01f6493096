/- What the proof of the law Extensions stands on, part 6: words, each Go function's Lean function, and that the Go code comes to its answers; no condition. (Packed by wip/myprint/pack.py out of what the kit's printer wrote, its words among it, partly by our patches of it, and out of texts of this session.) -/
import Derived.Test.YthmcpmnhdbeahaaGreatKExtensions3
import Derived.Test.YthmcpmnhdbeahaaGreatKExtensions4
import Derived.Test.YthmcpmnhdbeahaaGreatKExtensions5
set_option linter.unusedVariables false
set_option linter.unusedSimpArgs false
set_option maxHeartbeats 2000000
set_option maxRecDepth 20000
namespace Go.Proofs.YthmcpmnhdbeahaaGreat.V
open Go.RowKit Go.Proofs.YthmcpmnhdbeahaaGreat.D Go.Proofs.YthmcpmnhdbeahaaGreat.P
theorem factor (g:List (List Int)) (hl:g.length≤maxLen) (hr:∀r∈g,r.length≤maxLen) (m:Int) (u:List Int) (hu:u.length≤maxLen) (d:Int) (v:List Int) (hv:v.length≤maxLen) (most:Int) :
  (d=2∧Grp g∧Mdl g m u∧Co g m 2 v∧Cocy g m u v 2∧(g.length:Int)*m≤most∧Zaq.f g m u d v most=some 0∧ZM.f g m u d v most=some 0) ∨
  ∃c:Int,¬ c=0∧Zaq.f g m u d v most=some c∧ZM.f g m u d v most=some c:=by
 rw[Zaq.f_eq,ZM.f_eq]
 rcases co_codes g hl hr m u hu d v hv with ⟨hg,hm,hc,cI,cS⟩|⟨_,cI,cS⟩
 rotate_left
 ·
  exact .inr ⟨1,by omega,by((with_reducible repeat (first|refine Zj (by first|assumption|omega|rfl|exact B_pos (by omega)) ?_|refine Zi (by first|assumption|omega|decide|exact B_not (by omega)) ?_|refine Za (by first|assumption) ?_|dsimp only));first|done|(with_reducible rfl)|simp (disch:=omega) only[w64]|(show False;done)),by((with_reducible repeat (first|refine Zj (by first|assumption|omega|rfl|exact B_pos (by omega)) ?_|refine Zi (by first|assumption|omega|decide|exact B_not (by omega)) ?_|refine Za (by first|assumption) ?_|dsimp only));first|done|(with_reducible rfl)|simp (disch:=omega) only[w64]|(show False;done))⟩
 have n8:=hg.n8;have m2:=hm.m2;have m12:=hm.m12
 by_cases h2:d=2
 rotate_left
 ·
  exact .inr ⟨2,by omega,by((with_reducible repeat (first|refine Zj (by first|assumption|omega|rfl|exact B_pos (by omega)) ?_|refine Zi (by first|assumption|omega|decide|exact B_not (by omega)) ?_|refine Za (by first|assumption) ?_|dsimp only));first|done|(with_reducible rfl)|simp (disch:=omega) only[w64]|(show False;done)),by((with_reducible repeat (first|refine Zj (by first|assumption|omega|rfl|exact B_pos (by omega)) ?_|refine Zi (by first|assumption|omega|decide|exact B_not (by omega)) ?_|refine Za (by first|assumption) ?_|dsimp only));first|done|(with_reducible rfl)|simp (disch:=omega) only[w64]|(show False;done))⟩
 subst h2
 have b0:0≤(g.length:Int)*m:=Int.mul_nonneg (by omega) (by omega)
 have b1:(g.length:Int)*m≤8*12:=Int.mul_le_mul (by omega) m12 (by omega) (by omega)
 rw[ZX.f_eq,Option.bind_some,ZS.f_eq,Option.bind_some,w64 (x:=(g.length:Int)*m) (by omega) (by omega)]
 by_cases h3:(g.length:Int)*m > most
 ·
  exact .inr ⟨3,by omega,by((with_reducible repeat (first|refine Zj (by first|assumption|omega|rfl|exact B_pos (by omega)) ?_|refine Zi (by first|assumption|omega|decide|exact B_not (by omega)) ?_|refine Za (by first|assumption) ?_|dsimp only));first|done|(with_reducible rfl)|simp (disch:=omega) only[w64]|(show False;done)),by((with_reducible repeat (first|refine Zj (by first|assumption|omega|rfl|exact B_pos (by omega)) ?_|refine Zi (by first|assumption|omega|decide|exact B_not (by omega)) ?_|refine Za (by first|assumption) ?_|dsimp only));first|done|(with_reducible rfl)|simp (disch:=omega) only[w64]|(show False;done))⟩
 have c1:=Zjr hg hm (d:=2) hc
 have c2:=Zkd hg hm (d:=2) hc
 have e:((2:Nat):Int)=2:=rfl
 rw[e]at c1 c2
 by_cases h4:Cocy g m u v 2
 ·
  rw[B_pos h4]at c1 c2
  exact .inl ⟨rfl,hg,hm,hc,h4,by omega,by((with_reducible repeat (first|refine Zj (by first|assumption|omega|rfl|exact B_pos (by omega)) ?_|refine Zi (by first|assumption|omega|decide|exact B_not (by omega)) ?_|refine Za (by first|assumption) ?_|dsimp only));first|done|(with_reducible rfl)|simp (disch:=omega) only[w64]|(show False;done)),by((with_reducible repeat (first|refine Zj (by first|assumption|omega|rfl|exact B_pos (by omega)) ?_|refine Zi (by first|assumption|omega|decide|exact B_not (by omega)) ?_|refine Za (by first|assumption) ?_|dsimp only));first|done|(with_reducible rfl)|simp (disch:=omega) only[w64]|(show False;done))⟩
 ·
  rw[B_neg h4]at c1 c2
  exact .inr ⟨5,by omega,by((with_reducible repeat (first|refine Zj (by first|assumption|omega|rfl|exact B_pos (by omega)) ?_|refine Zi (by first|assumption|omega|decide|exact B_not (by omega)) ?_|refine Za (by first|assumption) ?_|dsimp only));first|done|(with_reducible rfl)|simp (disch:=omega) only[w64]|(show False;done)),by((with_reducible repeat (first|refine Zj (by first|assumption|omega|rfl|exact B_pos (by omega)) ?_|refine Zi (by first|assumption|omega|decide|exact B_not (by omega)) ?_|refine Za (by first|assumption) ?_|dsimp only));first|done|(with_reducible rfl)|simp (disch:=omega) only[w64]|(show False;done))⟩
noncomputable def ext (g:List (List Int)) (m:Int) (u v:List Int) (p q:Int):Int:=m*T g (p / m) (q / m)+(p%m+rd u (p / m)*(q%m)+At g v [p / m,q / m])%m
noncomputable def extT (g:List (List Int)) (m:Int) (u v:List Int) (N:Nat):List (List Int):=(List.range N).map fun p:Nat=>(List.range N).map fun q:Nat=>ext g m u v p q
theorem parts {n m p:Int} (hm:0 < m) (h0:0≤p) (h1:p < n*m):0≤p / m∧p / m < n∧0≤p%m∧p%m < m :=
 ⟨Int.ediv_nonneg h0 (by omega),Int.ediv_lt_of_lt_mul hm h1,Int.emod_nonneg _ (by omega),Int.emod_lt_of_pos _ hm⟩
theorem ext_w {g:List (List Int)} (hg:Grp g) {m:Int} {u v:List Int} (hm:Mdl g m u) (hc:Co g m 2 v) {p q:Int} (p0:0≤p) (p1:p < g.length*m) (q0:0≤q) (q1:q < g.length*m) :
  wrapI (p.tdiv m)=p / m∧wrapI (q.tdiv m)=q / m∧wrapI (wrapI (m*T g (p / m) (q / m))+(wrapI (wrapI (p.tmod m+wrapI (rd u (p / m)*q.tmod m))+At g v [p / m,q / m])).tmod m)=ext g m u v p q∧0≤ext g m u v p q∧ext g m u v p q < g.length*m:=by
 have n8:=hg.n8;have m2:=hm.m2;have m12:=hm.m12
 obtain⟨x0,x1,a0,a1⟩:=parts (show 0 < m by omega) p0 p1
 obtain⟨y0,y1,b0,b1⟩:=parts (show 0 < m by omega) q0 q1
 have hA:=At_bd hg (by omega) hc (ZcE x0 x1 y0 y1) rfl
 obtain⟨s0,s1⟩:=ZdM hm x0 x1 b0 b1
 obtain⟨t0,t1⟩:=hg.ent _ _ x0 x1 y0 y1
 have e1:0≤m*T g (p / m) (q / m):=Int.mul_nonneg (by omega) t0
 have e2:m*T g (p / m) (q / m)≤m*(g.length - 1):=Int.mul_le_mul_of_nonneg_left (by omega) (by omega)
 have e3:m*((g.length:Int) - 1)=g.length*m - m:=by rw[Int.mul_sub,Int.mul_comm];omega
 have e4:(g.length:Int)*m≤8*12:=Int.mul_le_mul (by omega) m12 (by omega) (by omega)
 have f0:=Int.emod_nonneg (p%m+rd u (p / m)*(q%m)+At g v [p / m,q / m]) (show m≠0 by omega)
 have f1:=Int.emod_lt_of_pos (p%m+rd u (p / m)*(q%m)+At g v [p / m,q / m]) (show 0 < m by omega)
 rw[ZeE p0,ZeE q0,ZbW p0,ZbW q0,w64 (x:=p / m) (by omega) (by omega),w64 (x:=q / m) (by omega) (by omega),w64 (x:=rd u (p / m)*(q%m)) (by omega) (by omega),w64 (x:=m*T g (p / m) (q / m)) (by omega) (by omega),w64 (x:=p%m+rd u (p / m)*(q%m)) (by omega) (by omega),w64 (x:=p%m+rd u (p / m)*(q%m)+At g v [p / m,q / m]) (by omega) (by omega),ZbW (by omega),w64 (by omega) (by omega)]
 unfold ext
 exact⟨rfl,rfl,rfl,by omega,by omega⟩
theorem Zea (g:List (List Int)) (m:Int) (u v:List Int) (N:Nat):(extT g m u v N).length=N∧∀r∈extT g m u v N,r.length=N:=by
 refine⟨by simp[extT],fun r hr => ?_⟩
 obtain⟨p,_,rfl⟩:=List.mem_map.1 hr
 simp
theorem made {N:Nat} (hN:N≤100000) {F:Int→Int→Option Int} {G:Nat→Nat→Int} (hF:∀p q:Nat,p < N→q < N→F p q=some (G p q)) :
  ZaV.f (N:Int) F=some ((List.range N).map fun p:Nat=>(List.range N).map fun q:Nat=>G p q):=by
 have l2:∀x:Int,([x]:List Int).length=1:=fun _=>rfl
 have l3:∀x:List Int,([x]:List (List Int)).length=1:=fun _=>rfl
 rw[ZaV.f_eq]
 have:=up N (fun p=>ZaV.l0 (N:Int) F (N:Int) (p:Int) [] ((List.range p).map fun p:Nat=>(List.range N).map fun q:Nat=>G p q)) (fun p hp=>by
  have inner:=up N (fun q=>ZaV.l1 (N:Int) F p (N:Int) p (N:Int) (q:Int) ((List.range q).map fun q:Nat=>G p q) [] ((List.range p).map fun p:Nat=>(List.range N).map fun q:Nat=>G p q)) (fun q hq=>by
   have l1:((List.range q).map fun q:Nat=>G p q).length=q:=by rw[List.length_map,List.length_range]
   rw[List.range_succ,List.map_append,List.map_singleton,ZaV.l1_eq,hF p q hp hq,Option.bind_some,l1,l2,wn (j:=q) (by omega)]
   ((with_reducible repeat (first|refine Zj (by first|assumption|omega|rfl|exact B_pos (by omega)) ?_|refine Zi (by first|assumption|omega|decide|exact B_not (by omega)) ?_|refine Za (by first|assumption) ?_|dsimp only));first|done|(with_reducible rfl)|simp (disch:=omega) only[w64]|(show False;done)))
  simp only[Int.natCast_zero,List.range_zero,List.map_nil]at inner
  have l1:((List.range p).map fun p:Nat=>(List.range N).map fun q:Nat=>G p q).length=p:=by rw[List.length_map,List.length_range]
  rw[List.range_succ,List.map_append,List.map_singleton,ZaV.l0_eq]
  (with_reducible repeat (first|refine Zj (by first|assumption|omega|rfl|exact B_pos (by omega)) ?_|refine Zi (by first|assumption|omega|decide|exact B_not (by omega)) ?_|refine Za (by first|assumption) ?_|dsimp only))
  rw[inner,ZaV.l1_eq,l1,l3,wn (j:=p) (by omega)]
  ((with_reducible repeat (first|refine Zj (by first|assumption|omega|rfl|exact B_pos (by omega)) ?_|refine Zi (by first|assumption|omega|decide|exact B_not (by omega)) ?_|refine Za (by first|assumption) ?_|dsimp only));first|done|(with_reducible rfl)|simp (disch:=omega) only[w64]|(show False;done)))
 simp only[Int.natCast_zero,List.range_zero,List.map_nil]at this
 rw[this,ZaV.l0_eq]
 ((with_reducible repeat (first|refine Zj (by first|assumption|omega|rfl|exact B_pos (by omega)) ?_|refine Zi (by first|assumption|omega|decide|exact B_not (by omega)) ?_|refine Za (by first|assumption) ?_|dsimp only));first|done|(with_reducible rfl)|simp (disch:=omega) only[w64]|(show False;done))
theorem extension {g:List (List Int)} (hg:Grp g) {m:Int} {u v:List Int} (hm:Mdl g m u) (hc:Co g m 2 v) {N:Nat} (hN:(N:Int)=g.length*m):ZaF.f g m u 2 v=some (extT g m u v N)∧N≤96:=by
 have n8:=hg.n8;have m2:=hm.m2;have m12:=hm.m12;have hlu:=hm.len
 have e4:(g.length:Int)*m≤8*12:=Int.mul_le_mul (by omega) m12 (by omega) (by omega)
 refine⟨?_,by omega⟩
 have hM:=made (N:=N) (by omega) (F:=fun z0 z1=>(Zay.f z0 z1 m u 2 v g).map fun z=>z) (G:=fun p q:Nat=>ext g m u v p q) (fun p q hp hq=>by
  obtain⟨w1,w2,w3,_,_⟩:=ext_w hg hm hc (p:=p) (q:=q) (by omega) (by omega) (by omega) (by omega)
  obtain⟨x0,x1,a0,a1⟩:=parts (show 0 < m by omega) (show 0≤(p:Int)by omega) (n:=g.length) (by omega)
  obtain⟨y0,y1,b0,b1⟩:=parts (show 0 < m by omega) (show 0≤(q:Int)by omega) (n:=g.length) (by omega)
  have hat:=at_ hg hc (ZcE x0 x1 y0 y1) rfl
  have ht:=times2 hg x0 x1 y0 y1
  have e:Zay.f p q m u 2 v g=some (ext g m u v p q):=by
   rw[Zay.f_eq,w1,w2,hat,Option.bind_some,ht,Option.bind_some,w3]
   clear w1 w2 w3
   ((with_reducible repeat (first|refine Zj (by first|assumption|omega|rfl|exact B_pos (by omega)) ?_|refine Zi (by first|assumption|omega|decide|exact B_not (by omega)) ?_|refine Za (by first|assumption) ?_|dsimp only));first|done|(with_reducible rfl)|simp (disch:=omega) only[w64]|(show False;done))
  show Option.map _ (Zay.f p q m u 2 v g)=_
  rw[e];rfl)
 rw[ZaF.f_eq,ZS.f_eq,Option.bind_some,w64 (by omega) (by omega),←hN,hM]
 rfl
theorem ZiS {g:List (List Int)} (hg:Grp g) {m:Int} {u v:List Int} (hm:Mdl g m u) (hc:Co g m 2 v) {N:Nat} (hN:(N:Int)=g.length*m):ZL.f g m u 2 v=some (extT g m u v N):=by
 have n8:=hg.n8;have m2:=hm.m2;have m12:=hm.m12;have hlu:=hm.len
 have e4:(g.length:Int)*m≤8*12:=Int.mul_le_mul (by omega) m12 (by omega) (by omega)
 have l2:∀x:Int,([x]:List Int).length=1:=fun _=>rfl
 have l3:∀x:List Int,([x]:List (List Int)).length=1:=fun _=>rfl
 rw[ZL.f_eq,ZX.f_eq,Option.bind_some,w64 (by omega) (by omega),←hN]
 have:=up N (fun p=>ZL.l0 (N:Int) (p:Int) g m u 2 v ((List.range p).map fun p:Nat=>(List.range N).map fun q:Nat=>ext g m u v p q)) (fun p hp=>by
  obtain⟨x0,x1,a0,a1⟩:=parts (show 0 < m by omega) (show 0≤(p:Int)by omega) (n:=g.length) (by omega)
  have inner:=up N (fun q=>ZL.l1 (N:Int) (p:Int) (q:Int) g m u 2 v ((List.range p).map fun p:Nat=>(List.range N).map fun q:Nat=>ext g m u v p q) ((List.range q).map fun q:Nat=>ext g m u v p q)) (fun q hq=>by
   obtain⟨w1,w2,w3,_,_⟩:=ext_w hg hm hc (p:=p) (q:=q) (by omega) (by omega) (by omega) (by omega)
   obtain⟨y0,y1,b0,b1⟩:=parts (show 0 < m by omega) (show 0≤(q:Int)by omega) (n:=g.length) (by omega)
   have rx:=hg.row _ x0 x1
   have hat:=At_ (u:=u) hg hc (ZcE x0 x1 y0 y1) rfl
   have l1:((List.range q).map fun q:Nat=>ext g m u v p q).length=q:=by rw[List.length_map,List.length_range]
   rw[List.range_succ (n:=q),List.map_append (l₁ := List.range q),List.map_singleton,ZL.l1_eq,w1,w2,hat,Option.bind_some,w3,l1,l2,wn (j:=q) (by omega)]
   clear w1 w2 w3
   ((with_reducible repeat (first|refine Zj (by first|assumption|omega|rfl|exact B_pos (by omega)) ?_|refine Zi (by first|assumption|omega|decide|exact B_not (by omega)) ?_|refine Za (by first|assumption) ?_|dsimp only));first|done|(with_reducible rfl)|simp (disch:=omega) only[w64]|(show False;done)))
  simp only[Int.natCast_zero,List.range_zero,List.map_nil]at inner
  have l1:((List.range p).map fun p:Nat=>(List.range N).map fun q:Nat=>ext g m u v p q).length=p:=by rw[List.length_map,List.length_range]
  rw[List.range_succ,List.map_append,List.map_singleton,ZL.l0_eq]
  (with_reducible repeat (first|refine Zj (by first|assumption|omega|rfl|exact B_pos (by omega)) ?_|refine Zi (by first|assumption|omega|decide|exact B_not (by omega)) ?_|refine Za (by first|assumption) ?_|dsimp only))
  rw[inner,ZL.l1_eq,l1,l3,wn (j:=p) (by omega)]
  ((with_reducible repeat (first|refine Zj (by first|assumption|omega|rfl|exact B_pos (by omega)) ?_|refine Zi (by first|assumption|omega|decide|exact B_not (by omega)) ?_|refine Za (by first|assumption) ?_|dsimp only));first|done|(with_reducible rfl)|simp (disch:=omega) only[w64]|(show False;done)))
 simp only[Int.natCast_zero,List.range_zero,List.map_nil]at this
 rw[this,ZL.l0_eq]
 (with_reducible repeat (first|refine Zj (by first|assumption|omega|rfl|exact B_pos (by omega)) ?_|refine Zi (by first|assumption|omega|decide|exact B_not (by omega)) ?_|refine Za (by first|assumption) ?_|dsimp only))
 rfl
end Go.Proofs.YthmcpmnhdbeahaaGreat.V
namespace Go.Proofs.YthmcpmnhdbeahaaGreat.V
open Go.RowKit Go.Proofs.YthmcpmnhdbeahaaGreat.D Go.Proofs.YthmcpmnhdbeahaaGreat.P
theorem ext_N {g:List (List Int)} (hg:Grp g) {m:Int} {u:List Int} (hm:Mdl g m u):∃N:Nat,(N:Int)=g.length*m:=by
 have m2:=hm.m2
 exact⟨((g.length:Int)*m).toNat,by rw[Int.toNat_of_nonneg (Int.mul_nonneg (by omega) (by omega))]⟩
theorem Zd3 (g:List (List Int)) (m:Int) (u:List Int) (d:Int) (v:List Int) (hl:g.length≤maxLen) (hr:∀r∈g,r.length≤maxLen) (hu:u.length≤maxLen) (hv:v.length≤maxLen) :
  ∃(R:List (List Int)) (c:Int),Zac.f g m u d v=some (R,c)∧Zaa.f g m u d v=some (R,c)∧R.length≤1048576∧(∀r∈R,r.length≤1048576)∧ZM.f g m u d v 64=some c∧(¬ c=0→R=[])∧(c=0→∀N:Nat,(N:Int)=g.length*m→R=extT g m u v N):=by
 rw[Zac.f_eq,Zaa.f_eq]
 rcases factor g hl hr m u hu d v hv 64 with ⟨rfl,hg,hm,hc,_,_,cS,cI⟩|⟨c,c0,cS,cI⟩
 ·
  obtain⟨N,hN⟩:=ext_N hg hm
  obtain⟨hE,h96⟩:=extension hg hm hc hN
  have hT:=ZiS hg hm hc hN
  obtain⟨l1,l2⟩:=Zea g m u v N
  refine⟨extT g m u v N,0,by((with_reducible repeat (first|refine Zj (by first|assumption|omega|rfl|exact B_pos (by omega)) ?_|refine Zi (by first|assumption|omega|decide|exact B_not (by omega)) ?_|refine Za (by first|assumption) ?_|dsimp only));first|done|(with_reducible rfl)|simp (disch:=omega) only[w64]|(show False;done)),by((with_reducible repeat (first|refine Zj (by first|assumption|omega|rfl|exact B_pos (by omega)) ?_|refine Zi (by first|assumption|omega|decide|exact B_not (by omega)) ?_|refine Za (by first|assumption) ?_|dsimp only));first|done|(with_reducible rfl)|simp (disch:=omega) only[w64]|(show False;done)),by omega,fun r hr=>by have:=l2 r hr;omega,cI,fun h=>absurd rfl h,fun _ N' hN' => ?_⟩
  obtain rfl:N' = N:=by omega
  rfl
 ·
  exact⟨[],c,by((with_reducible repeat (first|refine Zj (by first|assumption|omega|rfl|exact B_pos (by omega)) ?_|refine Zi (by first|assumption|omega|decide|exact B_not (by omega)) ?_|refine Za (by first|assumption) ?_|dsimp only));first|done|(with_reducible rfl)|simp (disch:=omega) only[w64]|(show False;done)),by((with_reducible repeat (first|refine Zj (by first|assumption|omega|rfl|exact B_pos (by omega)) ?_|refine Zi (by first|assumption|omega|decide|exact B_not (by omega)) ?_|refine Za (by first|assumption) ?_|dsimp only));first|done|(with_reducible rfl)|simp (disch:=omega) only[w64]|(show False;done)),by simp,by simp,cI,fun _=>rfl,fun h=>absurd h c0⟩
end Go.Proofs.YthmcpmnhdbeahaaGreat.V
set_option maxRecDepth 100000
namespace Go.Proofs.YthmcpmnhdbeahaaGreat.P
open Go Go.RowKit Go.Proofs.YthmcpmnhdbeahaaGreat.D
noncomputable def Zbx.E:Env:={ tt:=TT,con:=[(223,Zax.con),(224,Z7.con)],frz:=[],rows:=[],live:=[],n:=19,pin:=0,nils:=[] }
noncomputable def Zbx.fn:D.Fn:={ body:=Tryz.f166.body.getD .skip,res:=Tryz.f166.results.toList,ins:=[.agg [.v (.sl 27 (.sl 2 (.int .i64)))],.agg [.v (.int .i64),.v (.sl 2 (.int .i64))],.one (.v (.int .i64))],outs:=[.ptr false 187 [.v (.int .i64),.own 27 false (.sl 1000002 (.int .i64))]] }
def Zbx.enc (y:lsd (flats Zbx.fn.outs)×lsd (ios Zbx.fn.ins)):Int×(List (List Int)):=(y.1.1,y.1.2.1)
noncomputable def Zbx.f (l0_0:List (List Int)) (a1_0:Int) (l1_1:List Int) (a2:Int):Option (Int×(List (List Int))):=denF Zbx.E Zbx.fn Zbx.enc (l0_0,a1_0,l1_1,a2,())
theorem Zbx.f_eq (l0_0:List (List Int)) (a1_0:Int) (l1_1:List Int) (a2:Int):Zbx.f l0_0 a1_0 l1_1 a2=(Zax.f l0_0 a1_0 l1_1 a2).bind fun t13=>(Z7.f t13.1 t13.2.1 t13.2.2).bind fun t18=>some (t18.1,t18.2.1):=by kernel_rfl
end Go.Proofs.YthmcpmnhdbeahaaGreat.P
namespace Go.Proofs.YthmcpmnhdbeahaaGreat.V
open Go.RowKit Go.Proofs.YthmcpmnhdbeahaaGreat.D
abbrev Vc:=Nat→Int
inductive Sp (m:Int) (W:Nat) (G:Vc→Prop):Vc→Prop
 | nil:Sp m W G (fun _=>0)
 | add {x g:Vc} (c:Int):Sp m W G x→G g→Sp m W G (fun i=>x i+c*g i)
 | alike {x y:Vc}:Sp m W G x→(∀i,i < W→m∣x i - y i)→Sp m W G y
section
variable {m:Int} {W:Nat} {G G' : Vc→Prop} {x y:Vc}
theorem Zbz {m a b:Int} (h:a=b):m∣a - b:=⟨0,by omega⟩
theorem Sp.plus (hx:Sp m W G x) (hy:Sp m W G y):Sp m W G (fun i=>x i+y i):=by
 induction hy with
 | nil=>exact .alike hx fun i _=>Zbz (by dsimp only;omega)
 | add c _ hg ih=>exact .alike (.add c ih hg) fun i _=>Zbz (by dsimp only;omega)
 | alike _ h ih =>
  refine .alike ih fun i hi => ?_
  have:=h i hi
  rwa[show ∀a b c:Int,a+b - (a+c)=b - c from fun a b c=>by omega]
theorem Sp.mul (c:Int) (hx:Sp m W G x):Sp m W G (fun i=>c*x i):=by
 induction hx with
 | nil=>exact .alike .nil fun i _=>Zbz (by simp)
 | add d _ hg ih=>exact .alike (.add (c*d) ih hg) fun i _=>Zbz (by rw[Int.mul_add,Int.mul_assoc])
 | alike _ h ih =>
  refine .alike ih fun i hi => ?_
  rw[←Int.mul_sub]
  exact Int.dvd_mul_of_dvd_right (h i hi)
theorem Sp.gen {g:Vc} (h:G g):Sp m W G g := .alike (.add 1 .nil h) fun i _=>Zbz (by omega)
theorem Sp.mono (h:∀g,G g→Sp m W G' g) (hx:Sp m W G x):Sp m W G' x:=by
 induction hx with
 | nil=>exact .nil
 | add c _ hg ih=>exact ih.plus ((h _ hg).mul c)
 | alike _ h' ih=>exact .alike ih h'
theorem Sp.two {a b:Int} (hx:Sp m W G x) (hy:Sp m W G y) {z:Vc} (h:∀i,i < W→m∣a*x i+b*y i - z i):Sp m W G z := .alike ((hx.mul a).plus (hy.mul b)) h
theorem Sp.dvd {d:Int} (hd:d∣m) {i:Nat} (hi:i < W) (h:∀g,G g→d∣g i) (hx:Sp m W G x):d∣x i:=by
 induction hx with
 | nil=>exact Int.dvd_zero d
 | add c _ hg ih=>exact Int.dvd_add ih (Int.dvd_mul_of_dvd_right (h _ hg))
 | alike _ h' ih =>
  have:=Int.dvd_sub ih (Int.dvd_trans hd (h' i hi))
  rwa[show ∀a b:Int,a - (a - b)=b from fun a b=>by omega]at this
structure Sub (m:Int) (W:Nat) (M:Vc→Prop):Prop where
 zero:M fun _=>0
 lin:∀x y,M x→M y→∀c,M fun i=>x i+c*y i
 alike:∀x y,M x→(∀i,i < W→m∣x i - y i)→M y
theorem Sp.sub:Sub m W (Sp m W G):=⟨.nil,fun _ _ hx hy c=>hx.plus (hy.mul c),fun _ _ hx h => .alike hx h⟩
theorem Sub.all {M:Vc→Prop} (hM:Sub m W M) (h:∀g,G g→M g) (hx:Sp m W G x):M x:=by
 induction hx with
 | nil=>exact hM.zero
 | add c _ hg ih=>exact hM.lin _ _ ih (h _ hg) c
 | alike _ h' ih=>exact hM.alike _ _ ih h'
end
def V (x:List Int):Vc:=fun i=>rd x (i:Int)
structure PRow (m:Int) (W j:Nat) (r:List Int):Prop where
 len:r.length=W
 ent:AllIn m r
 zero:∀i:Nat,i < j→rd r (i:Int)=0
 pos:0 < rd r (j:Int)
 lt:rd r (j:Int) < m
 dvd:rd r (j:Int)∣m
structure PTab (m:Int) (W:Nat) (p:List (List Int)):Prop where
 len:p.length=W
 rws:∀j:Nat,j < W→row p (j:Int)=[]∨PRow m W j (row p (j:Int))
def Rws (W:Nat) (p:List (List Int)) (k:Nat):Vc→Prop:=fun g=>∃j:Nat,k≤j∧j < W∧row p (j:Int)≠[]∧g=V (row p (j:Int))
def GT (W:Nat) (p st:List (List Int)) (k:Nat):Vc→Prop:=fun g=>Rws W p k g∨∃s∈st,(∀i:Nat,i < k→rd s (i:Int)=0)∧g=V s
def How (m:Int) (W:Nat) (p:List (List Int)) (G:Nat→Vc→Prop):Prop:=∀j:Nat,j < W→row p (j:Int)≠[]→Sp m W (G (j+1)) (fun i=>m / rd (row p (j:Int)) (j:Int)*rd (row p (j:Int)) (i:Int))
structure Inv (m:Int) (W:Nat) (p st:List (List Int)):Prop where
 tab:PTab m W p
 sts:∀s∈st,s.length=W∧AllIn m s
 how:How m W p (GT W p st)
def dv (m:Int) (p:List (List Int)) (j:Nat):Int:=if row p (j:Int)=[]then m else rd (row p (j:Int)) (j:Int)
structure Lead (m:Int) (W:Nat) (p:List (List Int)) (M:Vc→Prop):Prop where
 tab:PTab m W p
 sub:Sub m W M
 own:∀j:Nat,j < W→row p (j:Int)≠[]→M (V (row p (j:Int)))
 lead:∀x,M x→∀j:Nat,j < W→(∀i:Nat,i < j→m∣x i)→dv m p j∣x j
section
variable {m:Int} {W:Nat} {p:List (List Int)}
theorem PTab.prow (h:PTab m W p) {j:Nat} (hj:j < W) (hr:row p (j:Int)≠[]):PRow m W j (row p (j:Int)):=(h.rws j hj).resolve_left hr
theorem Rws.zero (h:PTab m W p) {k j:Nat} {g:Vc} (hg:Rws W p k g) (hj:j < k):g j=0:=by
 obtain⟨i,h1,h2,h3,rfl⟩:=hg
 exact(h.prow h2 h3).zero j (by omega)
theorem Rws.part {k:Nat} (hk:k < W) (hr:row p (k:Int)≠[]) {x:Vc} (hx:Sp m W (Rws W p k) x):∃(c:Int) (w:Vc),Sp m W (Rws W p (k+1)) w∧∀i,i < W→m∣c*V (row p (k:Int)) i+w i - x i:=by
 induction hx with
 | nil=>exact⟨0,_,.nil,fun i _=>Zbz (by simp)⟩
 | add d _ hg ih =>
  obtain⟨c,w,h1,h2⟩:=ih
  obtain⟨j,j1,j2,j3,rfl⟩:=hg
  by_cases e:j=k
  ·
   subst e
   refine⟨c+d,w,h1,fun i hi => ?_⟩
   have:=h2 i hi
   rw[Int.add_mul]
   rwa[show ∀a b c d:Int,a+b+c - (d+b)=a+c - d from fun a b c d=>by omega]
  ·
   refine⟨c,_,.add d h1 ⟨j,by omega,j2,j3,rfl⟩,fun i hi => ?_⟩
   have:=h2 i hi
   dsimp only
   rwa[show ∀a b c d:Int,a+(b+c) - (d+c)=a+b - d from fun a b c d=>by omega]
 | alike _ h ih =>
  obtain⟨c,w,h1,h2⟩:=ih
  refine⟨c,w,h1,fun i hi => ?_⟩
  have:=Int.dvd_add (h2 i hi) (h i hi)
  rwa[show ∀a b c:Int,a - b+(b - c)=a - c from fun a b c=>by omega]at this
theorem Rws.next {k:Nat} (hr:row p (k:Int)=[]) {x:Vc} (hx:Sp m W (Rws W p k) x):Sp m W (Rws W p (k+1)) x:=hx.mono fun g ⟨j,j1,j2,j3,e⟩ => .gen ⟨j,by
 rcases Nat.lt_or_eq_of_le j1 with h|rfl
 ·
  exact h
 ·
  exact absurd hr j3,j2,j3,e⟩
theorem Rws.down (m0:0 < m) (ht:PTab m W p) (hh:How m W p (Rws W p)) {x:Vc} (hx:Sp m W (Rws W p 0) x) {j:Nat} (hj:j≤W) (hz:∀i:Nat,i < j→m∣x i):∀k,k≤j→Sp m W (Rws W p k) x:=by
 intro k
 induction k with
 | zero=>exact fun _=>hx
 | succ k ih =>
  intro hk
  have h:=ih (by omega)
  by_cases hr:row p (k:Int)=[]
  ·
   exact Rws.next hr h
  have hp:=ht.prow (by omega) hr
  obtain⟨c,w,h1,h2⟩:=Rws.part (by omega) hr h
  have hw:m∣w k:=h1.dvd (Int.dvd_refl m) (by omega) fun g hg=>by rw[Rws.zero ht hg (by omega)];exact Int.dvd_zero m
  have hc:m∣c*rd (row p (k:Int)) (k:Int):=by
   have:=Int.dvd_add (h2 k (by omega)) (hz k (by omega))
   rw[show ∀a b c:Int,a+b - c+c=a+b from fun a b c=>by omega]at this
   have:=Int.dvd_sub this hw
   rwa[show ∀a b:Int,a+b - b=a from fun a b=>by omega]at this
  obtain⟨q,hq⟩:=hp.dvd
  have hd:=hp.pos
  have hmd:m / rd (row p (k:Int)) (k:Int)=q:=by rw[hq];exact Int.mul_ediv_cancel_left _ (by omega)
  obtain⟨t,ht'⟩:q∣c:=by
   obtain⟨t,ht'⟩:=hc
   refine⟨t,Int.eq_of_mul_eq_mul_left (show rd (row p (k:Int)) (k:Int)≠0 by omega) ?_⟩
   rw[Int.mul_comm,ht', hq,Int.mul_assoc]
  have hH:=hh k (by omega) hr
  rw[hmd]at hH
  refine .alike ((hH.mul t).plus h1) fun i hi => ?_
  have:=h2 i hi
  rwa[show t*(q*rd (row p (k:Int)) (i:Int))=c*V (row p (k:Int)) i by rw[ht', ←Int.mul_assoc,Int.mul_comm t q];rfl]
theorem Zln (m0:0 < m) (ht:PTab m W p) (hh:How m W p (Rws W p)) {M:Vc→Prop} (hM:∀x,Sp m W (Rws W p 0) x↔M x):Lead m W p M where
 tab:=ht
 sub:=by rw[show M=Sp m W (Rws W p 0)from funext fun x=>propext (hM x).symm];exact Sp.sub
 own:=fun j hj hr=>(hM _).1 (.gen ⟨j,Nat.zero_le _,hj,hr,rfl⟩)
 lead:=fun x hx j hj hz=>by
  have h:=Rws.down m0 ht hh ((hM x).2 hx) (Nat.le_of_lt hj) hz j (Nat.le_refl _)
  unfold dv
  by_cases hr:row p (j:Int)=[]
  ·
   rw[if_pos hr]
   exact(Rws.next hr h).dvd (Int.dvd_refl m) hj fun g hg=>by rw[Rws.zero ht hg (by omega)];exact Int.dvd_zero m
  ·
   rw[if_neg hr]
   have hp:=ht.prow hj hr
   refine h.dvd hp.dvd hj fun g hg => ?_
   obtain⟨i,i1,i2,i3,rfl⟩:=hg
   by_cases e:i=j
   ·
    subst e;exact Int.dvd_refl _
   ·
    have:V (row p (i:Int)) j=0:=(ht.prow i2 i3).zero j (by omega)
    rw[this];exact Int.dvd_zero _
theorem dv_bd (m0:0 < m) (ht:PTab m W p) {j:Nat} (hj:j < W):0 < dv m p j∧dv m p j≤m∧dv m p j∣m:=by
 unfold dv
 by_cases hr:row p (j:Int)=[]
 ·
  rw[if_pos hr];exact⟨m0,Int.le_refl _,Int.dvd_refl _⟩
 ·
  rw[if_neg hr]
  have hp:=ht.prow hj hr
  exact⟨hp.pos,by have:=hp.lt;omega,hp.dvd⟩
theorem Zjd {a b:Int} (ha:0 < a) (hb:0 < b) (h:a∣b):a≤b:=Int.le_of_dvd hb h
theorem Zjb (m0:0 < m) {p' : List (List Int)} {M:Vc→Prop} (h:Lead m W p M) (h' : Lead m W p' M) {j:Nat} (hj:j < W):dv m p j=dv m p' j:=by
 have key:∀{p p' : List (List Int)},Lead m W p M→Lead m W p' M→dv m p j∣dv m p' j:=fun {p p'} h h' => by
  by_cases hr:row p' (j:Int)=[]
  ·
   rw[show dv m p' j=m from if_pos hr];exact(dv_bd m0 h.tab hj).2.2
  ·
   rw[show dv m p' j=rd (row p' (j:Int)) (j:Int)from if_neg hr]
   have hp:=h'.tab.prow hj hr
   exact h.lead _ (h'.own j hj hr) j hj fun i hi=>by rw[show V (row p' (j:Int)) i=0 from hp.zero i hi];exact Int.dvd_zero m
 have a:=Zjd (dv_bd m0 h.tab hj).1 (dv_bd m0 h'.tab hj).1 (key h h')
 have b:=Zjd (dv_bd m0 h'.tab hj).1 (dv_bd m0 h.tab hj).1 (key h' h)
 omega
structure Least (m:Int) (W:Nat) (p:List (List Int)) (M:Vc→Prop) (x y:List Int):Prop where
 len:y.length=W
 ent:AllIn m y
 dif:M fun i=>rd x (i:Int) - rd y (i:Int)
 lt:∀j:Nat,j < W→rd y (j:Int) < dv m p j
theorem Least.same (m0:0 < m) {p' : List (List Int)} {M:Vc→Prop} (h:Lead m W p M) (h' : Lead m W p' M) {x y y' : List Int} (hy:Least m W p M x y) (hy' : Least m W p' M x y'):y=y' := by
 have hd:M fun i=>rd y (i:Int) - rd y' (i:Int):=by
  refine h.sub.alike _ _ (h.sub.lin _ _ hy'.dif hy.dif (-1)) fun i _=>Zbz ?_
  omega
 have hall:∀n,n≤W→∀i:Nat,i < n→rd y (i:Int)=rd y' (i:Int):=by
  intro n
  induction n with
  | zero=>intro _ i hi;omega
  | succ n ih =>
   intro hn i hi
   have ih:=ih (by omega)
   by_cases e:i=n
   ·
    subst e
    have hl:=h.lead _ hd i (by omega) fun k hk=>by rw[ih k hk];exact⟨0,by omega⟩
    have a1:=hy.lt i (by omega)
    have a2:=hy'.lt i (by omega)
    rw[←Zjb m0 h h' (show i < W by omega)]at a2
    obtain⟨b1,_⟩:=hy.ent i (by omega) (by rw[hy.len];omega)
    obtain⟨b2,_⟩:=hy'.ent i (by omega) (by rw[hy'.len];omega)
    have hd0:=(dv_bd m0 h.tab (show i < W by omega)).1
    obtain⟨q,hq⟩:=hl
    have q0:q=0:=by
     rcases Int.lt_trichotomy q 0 with h|h|h
     ·
      have:=Int.mul_le_mul_of_nonneg_left (show q ≤ -1 by omega) (Int.le_of_lt hd0)
      omega
     ·
      exact h
     ·
      have:=Int.mul_le_mul_of_nonneg_left (show 1≤q by omega) (Int.le_of_lt hd0)
      omega
    rw[q0]at hq
    omega
   ·
    exact ih i (by omega)
 refine Zji (by rw[hy.len,hy'.len]) fun i i0 i1 => ?_
 obtain⟨n,rfl⟩:=Int.eq_ofNat_of_zero_le i0
 exact hall W (Nat.le_refl _) n (by have:=hy.len;omega)
end
end Go.Proofs.YthmcpmnhdbeahaaGreat.V
set_option maxRecDepth 20000
namespace Go.Proofs.YthmcpmnhdbeahaaGreat.V
open Go.RowKit Go.Proofs.YthmcpmnhdbeahaaGreat.D Go.Proofs.YthmcpmnhdbeahaaGreat.P
theorem ModW {a m:Int} (h0 : -4000000000000000000≤a) (h1:a≤4000000000000000000) (m0:0 < m) (m1:m≤1000000):Za0.f a m=some (a%m):=by
 rw[Za0.f_eq]
 have t0:=Int.tmod_lt_of_pos a m0
 have t1 : -m < Int.tmod a m:=Int.lt_tmod_of_pos a m0
 have hq:=Int.mul_tdiv_add_tmod a m
 have h5:(m*a.tdiv m+a.tmod m)%m=a.tmod m%m:=by rw[Int.add_comm,Int.add_mul_emod_self_left]
 rw[hq]at h5
 rw[w64 (by omega) (by omega),Int.tmod_eq_emod_of_nonneg (show 0≤Int.tmod a m+m by omega),Int.add_emod_right,←h5]
 ((with_reducible repeat (first|refine Zj (by first|assumption|omega|rfl|exact B_pos (by omega)) ?_|refine Zi (by first|assumption|omega|decide|exact B_not (by omega)) ?_|refine Za (by first|assumption) ?_|dsimp only));first|done|(with_reducible rfl)|simp (disch:=omega) only[w64]|(show False;done))
def mix (m x:Int) (a:List Int) (y:Int) (b:List Int):List Int:=(List.range a.length).map fun(i:Nat)=>(x*rd a (i:Int)+y*rd b (i:Int))%m
theorem ZbB (m x:Int) (a:List Int) (y:Int) (b:List Int):(mix m x a y b).length=a.length:=by simp[mix]
theorem Zcr {m x:Int} {a:List Int} {y:Int} {b:List Int} {i:Nat} (h:i < a.length):rd (mix m x a y b) (i:Int)=(x*rd a (i:Int)+y*rd b (i:Int))%m:=by
 rw[Zb3 (by rw[ZbB];exact h)]
 simp[mix]
theorem ZcY {m x:Int} {a:List Int} {y:Int} {b:List Int} (m0:0 < m):AllIn m (mix m x a y b):=by
 refine ZbX fun z hz => ?_
 obtain⟨i,_,rfl⟩:=List.mem_map.1 hz
 exact⟨Int.emod_nonneg _ (by omega),Int.emod_lt_of_pos _ m0⟩
theorem Zcv {m x:Int} {a:List Int} {y:Int} {b:List Int} {i:Nat} (h:i < a.length):m∣x*rd a (i:Int)+y*rd b (i:Int) - rd (mix m x a y b) (i:Int):=by
 rw[Zcr h]
 exact Int.dvd_self_sub_emod
theorem ZeQ {x a B m:Int} (x0 : -B≤x) (x1:x≤B) (a0:0≤a) (a1:a < m) (m1:m≤12) (B0:0≤B) : -(12*B)≤x*a∧x*a≤12*B:=by
 have h1:x*a≤B*a:=Int.mul_le_mul_of_nonneg_right x1 a0
 have h2:(-B)*a≤x*a:=Int.mul_le_mul_of_nonneg_right x0 a0
 have h3:B*a≤B*12:=Int.mul_le_mul_of_nonneg_left (by omega) B0
 rw[Int.neg_mul]at h2
 constructor <;> omega
theorem Zim {xs ys:List Int} {j:Nat} (hl:ys.length=xs.length) (hj:j < xs.length) {z:Int} (hz:z=rd ys (j:Int)):(ys.take j++xs.drop j).set j z=ys.take (j+1)++xs.drop (j+1):=by
 subst hz
 rw[Zb3 (by omega)]
 apply List.ext_getElem
 ·
  simp;omega
 ·
  intro i h1 h2
  rw[List.getElem_set]
  by_cases e:j=i
  ·
   subst e
   rw[if_pos rfl,List.getElem_append_left (by simp;omega)]
   simp
  ·
   rw[if_neg e]
   by_cases e2:i < j
   ·
    rw[List.getElem_append_left (by simp;omega),List.getElem_append_left (by simp;omega)]
    simp
   ·
    have:(List.take j ys).length=j:=by simp;omega
    have:(List.take (j+1) ys).length=j+1:=by simp;omega
    rw[List.getElem_append_right (by omega),List.getElem_append_right (by omega)]
    simp only[List.getElem_drop]
    congr 1
    omega
theorem combined {m:Int} (m2:2≤m) (m12:m≤12) {p:List (List Int)} {x y:Int} {a b:List Int} (ha:AllIn m a) (hb:AllIn m b) (hl:b.length=a.length) (hW:a.length≤1000000) (x0 : -100000000000000≤x) (x1:x≤100000000000000) (y0 : -100000000000000≤y) (y1:y≤100000000000000) :
  Zp.f m p x a y b=some (mix m x a y b):=by
 have hz:(List.replicate a.length (0:Int)).length=a.length:=List.length_replicate
 have hml:=ZbB m x a y b
 have loop:=up a.length (fun j=>Zp.l0 x y b a (a.length:Int) (j:Int) m p ((mix m x a y b).take j++(List.replicate a.length (0:Int)).drop j)) (fun j hj=>by
  obtain⟨a0,a1⟩:=ha j (by omega) (by omega)
  obtain⟨b0,b1⟩:=hb j (by omega) (by omega)
  have p1:=ZeQ x0 x1 a0 a1 m12 (by omega)
  have p2:=ZeQ y0 y1 b0 b1 m12 (by omega)
  have t0:=Int.tmod_lt_of_pos (x*rd a (j:Int)+y*rd b (j:Int)) (show 0 < m by omega)
  have t1 : -m < Int.tmod (x*rd a (j:Int)+y*rd b (j:Int)) m:=Int.lt_tmod_of_pos _ (by omega)
  have hq:=Int.mul_tdiv_add_tmod (x*rd a (j:Int)+y*rd b (j:Int)) m
  have h5:(m*(x*rd a (j:Int)+y*rd b (j:Int)).tdiv m+(x*rd a (j:Int)+y*rd b (j:Int)).tmod m)%m=(x*rd a (j:Int)+y*rd b (j:Int)).tmod m%m:=by rw[Int.add_comm,Int.add_mul_emod_self_left]
  rw[hq]at h5
  have hv:(wrapI ((wrapI (wrapI (x*rd a (j:Int))+wrapI (y*rd b (j:Int)))).tmod m+m)).tmod m=rd (mix m x a y b) (j:Int):=by
   rw[w64 (x:=x*rd a (j:Int)) (by omega) (by omega),w64 (x:=y*rd b (j:Int)) (by omega) (by omega),w64 (x:=x*rd a (j:Int)+y*rd b (j:Int)) (by omega) (by omega),w64 (by omega) (by omega),Zcr hj,Int.tmod_eq_emod_of_nonneg (by omega),Int.add_emod_right,←h5]
  have hs:=Zim (xs:=List.replicate a.length (0:Int)) (ys:=mix m x a y b) (by omega) (by omega) (j:=j) hv
  have hll:(((mix m x a y b).take j++(List.replicate a.length (0:Int)).drop j).length:Int)=a.length:=by simp;omega
  rw[Zp.l0_eq,wn (j:=j) (by omega),Int.toNat_natCast,hs,hll]
  ((with_reducible repeat (first|refine Zj (by first|assumption|omega|rfl|exact B_pos (by omega)) ?_|refine Zi (by first|assumption|omega|decide|exact B_not (by omega)) ?_|refine Za (by first|assumption) ?_|dsimp only));first|done|(with_reducible rfl)|simp (disch:=omega) only[w64]|(show False;done)))
 rw[Zp.f_eq,Int.toNat_natCast]
 rw[List.take_zero,List.nil_append,List.drop_zero,Int.natCast_zero]at loop
 rw[loop,Zp.l0_eq,show(mix m x a y b).take a.length=mix m x a y b from List.take_of_length_le (by omega),List.drop_of_length_le (by simp),List.append_nil]
 ((with_reducible repeat (first|refine Zj (by first|assumption|omega|rfl|exact B_pos (by omega)) ?_|refine Zi (by first|assumption|omega|decide|exact B_not (by omega)) ?_|refine Za (by first|assumption) ?_|dsimp only));first|done|(with_reducible rfl)|simp (disch:=omega) only[w64]|(show False;done))
theorem Mix_ {m:Int} (m2:2≤m) (m12:m≤12) {x y:Int} {a b:List Int} (ha:AllIn m a) (hb:AllIn m b) (hl:b.length=a.length) (hW:a.length≤1000000) (x0 : -100000000000000≤x) (x1:x≤100000000000000) (y0 : -100000000000000≤y) (y1:y≤100000000000000) :
  Zas.f a b x y m=some (mix m x a y b):=by
 have hz:(List.replicate a.length (0:Int)).length=a.length:=List.length_replicate
 have hml:=ZbB m x a y b
 have loop:=up a.length (fun j=>Zas.l0 a b x y m (j:Int) ((mix m x a y b).take j++(List.replicate a.length (0:Int)).drop j)) (fun j hj=>by
  obtain⟨a0,a1⟩:=ha j (by omega) (by omega)
  obtain⟨b0,b1⟩:=hb j (by omega) (by omega)
  have p1:=ZeQ x0 x1 a0 a1 m12 (by omega)
  have p2:=ZeQ y0 y1 b0 b1 m12 (by omega)
  have hM:=ModW (a:=x*rd a (j:Int)+y*rd b (j:Int)) (m:=m) (by omega) (by omega) (by omega) (by omega)
  have hs:=Zim (xs:=List.replicate a.length (0:Int)) (ys:=mix m x a y b) (by omega) (by omega) (j:=j) (Zcr hj).symm
  have hll:(((mix m x a y b).take j++(List.replicate a.length (0:Int)).drop j).length:Int)=a.length:=by simp;omega
  rw[Zas.l0_eq,wn (j:=j) (by omega),w64 (x:=x*rd a (j:Int)) (by omega) (by omega),w64 (x:=y*rd b (j:Int)) (by omega) (by omega),w64 (by omega) (by omega),hM,Option.bind_some,Int.toNat_natCast,hs,hll]
  ((with_reducible repeat (first|refine Zj (by first|assumption|omega|rfl|exact B_pos (by omega)) ?_|refine Zi (by first|assumption|omega|decide|exact B_not (by omega)) ?_|refine Za (by first|assumption) ?_|dsimp only));first|done|(with_reducible rfl)|simp (disch:=omega) only[w64]|(show False;done)))
 rw[Zas.f_eq,Int.toNat_natCast]
 rw[List.take_zero,List.nil_append,List.drop_zero,Int.natCast_zero]at loop
 rw[loop,Zas.l0_eq,show(mix m x a y b).take a.length=mix m x a y b from List.take_of_length_le (by omega),List.drop_of_length_le (by simp),List.append_nil]
 ((with_reducible repeat (first|refine Zj (by first|assumption|omega|rfl|exact B_pos (by omega)) ?_|refine Zi (by first|assumption|omega|decide|exact B_not (by omega)) ?_|refine Za (by first|assumption) ?_|dsimp only));first|done|(with_reducible rfl)|simp (disch:=omega) only[w64]|(show False;done))
end Go.Proofs.YthmcpmnhdbeahaaGreat.V
namespace Go.Proofs.YthmcpmnhdbeahaaGreat.V
open Go.RowKit Go.Proofs.YthmcpmnhdbeahaaGreat.D Go.Proofs.YthmcpmnhdbeahaaGreat.P
theorem bez (a b:Nat):∃s t:Int,s*a+t*b=((Nat.gcd a b:Nat):Int):=by
 induction a,b using Nat.gcd.induction with
 | H0 n=>exact⟨0,1,by simp⟩
 | H1 a b ha ih =>
  obtain⟨s,t,h⟩:=ih
  refine⟨t - s*((b / a:Nat):Int),s,?_⟩
  rw[Nat.gcd_rec a b,←h]
  have h1:(b:Int)=(a:Int)*((b / a:Nat):Int)+((b%a:Nat):Int):=by exact_mod_cast (Nat.div_add_mod b a).symm
  rw[Int.sub_mul,Int.mul_assoc,Int.mul_comm ((b / a:Nat):Int) (a:Int)]
  have h2:s*(b:Int)=s*((a:Int)*((b / a:Nat):Int))+s*((b%a:Nat):Int):=by rw[←Int.mul_add,←h1]
  omega
theorem Zla {m a b:Int} (m0:0 < m) (a0:0≤a) (b0:0≤b):∃x y:Int,(0≤x∧x < m)∧(0≤y∧y < m)∧m∣x*a+y*b - ((Int.gcd ((Int.gcd a b:Nat):Int) m:Nat):Int):=by
 obtain⟨A,rfl⟩:=Int.eq_ofNat_of_zero_le a0
 obtain⟨C,rfl⟩:=Int.eq_ofNat_of_zero_le b0
 obtain⟨M,rfl⟩:=Int.eq_ofNat_of_zero_le (Int.le_of_lt m0)
 obtain⟨s,t,h1⟩:=bez A C
 obtain⟨s', t', h2⟩:=bez (Nat.gcd A C) M
 refine⟨(s' * s)%M,(s' * t)%M,⟨Int.emod_nonneg _ (by omega),Int.emod_lt_of_pos _ m0⟩,⟨Int.emod_nonneg _ (by omega),Int.emod_lt_of_pos _ m0⟩,?_⟩
 show(M:Int)∣(s' * s)%M*A+(s' * t)%M*C - ((Nat.gcd (Nat.gcd A C) M:Nat):Int)
 have e1:(s' * s)%(M:Int)=s' * s - M*(s' * s / M):=by have:=Int.mul_ediv_add_emod (s' * s) M;omega
 have e2:(s' * t)%(M:Int)=s' * t - M*(s' * t / M):=by have:=Int.mul_ediv_add_emod (s' * t) M;omega
 rw[e1,e2]
 refine⟨-(s' * s / M*A) - (s' * t / M*C) - t', ?_⟩
 have h3:s' * (s*(A:Int)+t*(C:Int))=s' * ((Nat.gcd A C:Nat):Int):=by rw[h1]
 rw[Int.mul_add,←Int.mul_assoc,←Int.mul_assoc]at h3
 rw[Int.sub_mul,Int.sub_mul,Int.mul_sub,Int.mul_sub,Int.mul_neg,Int.mul_assoc (M:Int),Int.mul_assoc (M:Int),Int.mul_comm (M:Int) t']
 omega
theorem Zc3 {a m:Int}:Int.tmod a m=0↔m∣a:=⟨Int.dvd_of_tmod_eq_zero,Int.tmod_eq_zero_of_dvd⟩
theorem bezout {m:Int} (m2:2≤m) (m12:m≤12) {p:List (List Int)} {a b:Int} (a0:0≤a) (a1:a≤12) (b0:0≤b) (b1:b≤12) :
  ∃x y:Int,Zq.f m p a b=some (x,y,((Int.gcd ((Int.gcd a b:Nat):Int) m:Nat):Int))∧(0≤x∧x < m)∧(0≤y∧y < m)∧m∣x*a+y*b - ((Int.gcd ((Int.gcd a b:Nat):Int) m:Nat):Int):=by
 have hg1:=gcd_ a0 b0
 have hg2:=gcd_ (a:=((Int.gcd a b:Nat):Int)) (b:=m) (by omega) (by omega)
 have hd:0≤((Int.gcd ((Int.gcd a b:Nat):Int) m:Nat):Int)∧((Int.gcd ((Int.gcd a b:Nat):Int) m:Nat):Int)≤m:=by
  constructor
  ·
   omega
  ·
   exact Int.le_of_dvd (by omega) (Int.gcd_dvd_right ..)
 obtain⟨x0,y0,hx0,hy0,h0⟩:=Zla (m:=m) (by omega) a0 b0
 rw[Zq.f_eq,hg1,Option.bind_some,hg2,Option.bind_some]
 generalize ((Int.gcd ((Int.gcd a b:Nat):Int) m:Nat):Int)=d at hd h0 ⊢
 have inner:∀(n:Nat) (x y:Int),0≤x→x < m→0≤y→y+n=m→(∃y', (0≤y' ∧ y' < m)∧m∣x*a+y' * b - d∧Zq.l1 a b d x m x m y m p=some (x,y', d))∨((∀y', y≤y' → y' < m→¬ m∣x*a+y' * b - d)∧Zq.l1 a b d x m x m y m p=Zq.l0 a b d m (x+1) m p):=by
  intro n
  induction n with
  | zero =>
   intro x y hx hx' hy hn
   refine .inr ⟨fun y' h1 h2=>by omega,?_⟩
   rw[Zq.l1_eq,w64 (x:=x+1) (by omega) (by omega)]
   ((with_reducible repeat (first|refine Zj (by first|assumption|omega|rfl|exact B_pos (by omega)) ?_|refine Zi (by first|assumption|omega|decide|exact B_not (by omega)) ?_|refine Za (by first|assumption) ?_|dsimp only));first|done|(with_reducible rfl)|simp (disch:=omega) only[w64]|(show False;done))
  | succ n ih =>
   intro x y hx hx' hy hn
   have p1:=ZeQ (x:=x) (a:=a) (B:=12) (m:=13) (by omega) (by omega) a0 (by omega)
   have q1:0≤x*a:=Int.mul_nonneg hx a0
   have q2:x*a≤12*12:=Int.mul_le_mul (by omega) a1 a0 (by omega)
   have q3:0≤y*b:=Int.mul_nonneg hy b0
   have q4:y*b≤12*12:=Int.mul_le_mul (by omega) b1 b0 (by omega)
   have hv:wrapI (wrapI (wrapI (x*a)+wrapI (y*b)) - d)=x*a+y*b - d:=by
    rw[w64 (x:=x*a) (by omega) (by omega),w64 (x:=y*b) (by omega) (by omega),w64 (x:=x*a+y*b) (by omega) (by omega),w64 (by omega) (by omega)]
   by_cases h:m∣x*a+y*b - d
   ·
    refine .inl ⟨y,⟨hy,by omega⟩,h,?_⟩
    have ht:=Zc3.2 h
    rw[Zq.l1_eq,hv]
    ((with_reducible repeat (first|refine Zj (by first|assumption|omega|rfl|exact B_pos (by omega)) ?_|refine Zi (by first|assumption|omega|decide|exact B_not (by omega)) ?_|refine Za (by first|assumption) ?_|dsimp only));first|done|(with_reducible rfl)|simp (disch:=omega) only[w64]|(show False;done))
   ·
    have ht:¬ Int.tmod (x*a+y*b - d) m=0:=fun k=>h (Zc3.1 k)
    have hl:Zq.l1 a b d x m x m y m p=Zq.l1 a b d x m x m (y+1) m p:=by
     rw[Zq.l1_eq,hv,w64 (x:=y+1) (by omega) (by omega)]
     ((with_reducible repeat (first|refine Zj (by first|assumption|omega|rfl|exact B_pos (by omega)) ?_|refine Zi (by first|assumption|omega|decide|exact B_not (by omega)) ?_|refine Za (by first|assumption) ?_|dsimp only));first|done|(with_reducible rfl)|simp (disch:=omega) only[w64]|(show False;done))
    rcases ih x (y+1) hx hx' (by omega) (by omega)with ⟨y', h1,h2,h3⟩|⟨h1,h2⟩
    ·
     exact .inl ⟨y', h1,h2,hl.trans h3⟩
    ·
     refine .inr ⟨fun y' k1 k2 => ?_,hl.trans h2⟩
     by_cases e:y' = y
     ·
      rw[e];exact h
     ·
      exact h1 y' (by omega) k2
 have outer:∀(n:Nat) (x:Int),0≤x→x+n=m→x≤x0→∃x' y', Zq.l0 a b d m x m p=some (x', y', d)∧(0≤x' ∧ x' < m)∧(0≤y' ∧ y' < m)∧m∣x' * a+y' * b - d:=by
  intro n
  induction n with
  | zero=>intro x hx hn hx0';omega
  | succ n ih =>
   intro x hx hn hx0'
   have hl:Zq.l0 a b d m x m p=Zq.l1 a b d x m x m 0 m p:=by
    rw[Zq.l0_eq]
    ((with_reducible repeat (first|refine Zj (by first|assumption|omega|rfl|exact B_pos (by omega)) ?_|refine Zi (by first|assumption|omega|decide|exact B_not (by omega)) ?_|refine Za (by first|assumption) ?_|dsimp only));first|done|(with_reducible rfl)|simp (disch:=omega) only[w64]|(show False;done))
   rw[hl]
   rcases inner m.toNat x 0 hx (by omega) (by omega) (by omega)with ⟨y', h1,h2,h3⟩|⟨h1,h2⟩
   ·
    exact⟨x,y', h3,⟨hx,by omega⟩,h1,h2⟩
   ·
    rw[h2]
    refine ih (x+1) (by omega) (by omega) ?_
    by_cases e:x=x0
    ·
     exact absurd (e ▸ h0) (h1 y0 hy0.1 hy0.2)
    ·
     omega
 exact outer m.toNat 0 (by omega) (by omega) hx0.1
theorem ZkY {a b:Int} (a0:0≤a) (a1:a≤12) (b0:0≤b) (b1:b≤12) :
  ∃s t:Int,Zaj.f a b=some (((Int.gcd a b:Nat):Int),s,t)∧s*a+t*b=((Int.gcd a b:Nat):Int)∧(-100000000000000≤s∧s≤100000000000000)∧(-100000000000000≤t∧t≤100000000000000):=by
 have key:∀(k:Nat) (x y:Nat) (s t u v K:Int),x≤12→y≤12→y≤k→(-K≤s∧s≤K)→(-K≤t∧t≤K)→(-K≤u∧u≤K)→(-K≤v∧v≤K)→0≤K→K*13 ^ k≤100000000000000→s*a+t*b=x→u*a+v*b=y →
   ∃s' t' : Int,Zaj.l0 (x:Int) (y:Int) s t u v=some (((Nat.gcd x y:Nat):Int),s', t')∧s' * a+t' * b=((Nat.gcd x y:Nat):Int)∧(-100000000000000≤s' ∧ s' ≤ 100000000000000)∧(-100000000000000≤t' ∧ t' ≤ 100000000000000):=by
  intro k
  induction k with
  | zero =>
   intro x y s t u v K hx hy12 hy hs ht hu hv hK hKk h1 h2
   obtain rfl:y=0:=by omega
   rw[Int.pow_zero,Int.mul_one]at hKk
   refine⟨s,t,?_,by rw[Nat.gcd_zero_right];exact h1,by omega,by omega⟩
   rw[Zaj.l0_eq,Nat.gcd_zero_right]
   ((with_reducible repeat (first|refine Zj (by first|assumption|omega|rfl|exact B_pos (by omega)) ?_|refine Zi (by first|assumption|omega|decide|exact B_not (by omega)) ?_|refine Za (by first|assumption) ?_|dsimp only));first|done|(with_reducible rfl)|simp (disch:=omega) only[w64]|(show False;done))
  | succ k ih =>
   intro x y s t u v K hx hy12 hy hs ht hu hv hK hKk h1 h2
   have hpow:(1:Int)≤13 ^ k:=Int.pow_pos (by decide)
   rw[Int.pow_succ,Int.mul_comm (13 ^ k) 13,←Int.mul_assoc]at hKk
   have hK1:K*13≤K*13*13 ^ k:=by
    have:=Int.mul_le_mul_of_nonneg_left hpow (show 0≤K*13 by omega)
    rwa[Int.mul_one]at this
   by_cases e:y=0
   ·
    subst e
    refine⟨s,t,?_,by rw[Nat.gcd_zero_right];exact h1,by omega,by omega⟩
    rw[Zaj.l0_eq,Nat.gcd_zero_right]
    ((with_reducible repeat (first|refine Zj (by first|assumption|omega|rfl|exact B_pos (by omega)) ?_|refine Zi (by first|assumption|omega|decide|exact B_not (by omega)) ?_|refine Za (by first|assumption) ?_|dsimp only));first|done|(with_reducible rfl)|simp (disch:=omega) only[w64]|(show False;done))
   ·
    have hq:(x:Int).tdiv (y:Int)=((x / y:Nat):Int):=by rw[Int.tdiv_eq_ediv_of_nonneg (by omega)];rfl
    have hq12:x / y≤12:=Nat.le_trans (Nat.div_le_self _ _) hx
    have hm:=Nat.div_add_mod x y
    have hlt:=Nat.mod_lt x (show 0 < y by omega)
    generalize x / y=Q at hq hq12 hm
    have hqy:(Q:Int)*(y:Int)=(x:Int) - ((x%y:Nat):Int):=by
     have:(y:Int)*(Q:Int)+((x%y:Nat):Int)=(x:Int):=by exact_mod_cast hm
     rw[Int.mul_comm];omega
    have bd:∀z:Int,(-K≤z∧z≤K) → -(12*K)≤(Q:Int)*z∧(Q:Int)*z≤12*K:=fun z hz=>by
     have h1:(Q:Int)*z≤(Q:Int)*K:=Int.mul_le_mul_of_nonneg_left hz.2 (by omega)
     have h2:(Q:Int)*(-K)≤(Q:Int)*z:=Int.mul_le_mul_of_nonneg_left hz.1 (by omega)
     have h3:(Q:Int)*K≤12*K:=Int.mul_le_mul_of_nonneg_right (by omega) hK
     rw[Int.mul_neg]at h2
     omega
    have bu:=bd u hu
    have bv:=bd v hv
    have hmod:((x%y:Nat):Int)=(x:Int) - (Q:Int)*y:=by omega
    obtain⟨s', t', k1,k2,k3,k4⟩:=ih y (x%y) u v (s - (Q:Int)*u) (t - (Q:Int)*v) (K*13) (by omega) (by omega) (by omega) ⟨by omega,by omega⟩ ⟨by omega,by omega⟩ ⟨by omega,by omega⟩ ⟨by omega,by omega⟩ (by omega) hKk h2 (by
     rw[Int.sub_mul,Int.sub_mul,hmod,←h1,←h2,Int.mul_add,Int.mul_assoc,Int.mul_assoc]
     omega)
    have hgc:Nat.gcd y (x%y)=Nat.gcd x y:=by rw[Nat.gcd_comm x y,Nat.gcd_rec y x,Nat.gcd_comm]
    rw[hgc]at k1 k2
    refine⟨s', t', ?_,k2,k3,k4⟩
    have w1:wrapI (Q:Int)=(Q:Int):=w64 (by omega) (by omega)
    rw[Zaj.l0_eq,hq,w1,hqy,w64 (x:=(x:Int) - ((x%y:Nat):Int)) (by omega) (by omega),w64 (x:=(x:Int) - ((x:Int) - ((x%y:Nat):Int))) (by omega) (by omega),w64 (x:=(Q:Int)*u) (by omega) (by omega),w64 (x:=(Q:Int)*v) (by omega) (by omega),w64 (x:=s - (Q:Int)*u) (by omega) (by omega),w64 (x:=t - (Q:Int)*v) (by omega) (by omega),show(x:Int) - ((x:Int) - ((x%y:Nat):Int))=((x%y:Nat):Int)by omega]
    (with_reducible repeat (first|refine Zj (by first|assumption|omega|rfl|exact B_pos (by omega)) ?_|refine Zi (by first|assumption|omega|decide|exact B_not (by omega)) ?_|refine Za (by first|assumption) ?_|dsimp only))
    exact k1
 obtain⟨A,rfl⟩:=Int.eq_ofNat_of_zero_le a0
 obtain⟨C,rfl⟩:=Int.eq_ofNat_of_zero_le b0
 rw[Zaj.f_eq]
 exact key 12 A C 1 0 0 1 1 (by omega) (by omega) (by omega) (by omega) (by omega) (by omega) (by omega) (by omega) (by decide) (by omega) (by omega)
theorem ZkK:∀m:Nat,m≤12→∀x:Nat,x < m→0 < x→((List.range 13).any fun u=>decide (1≤u) && decide (Nat.gcd u m=1) && decide (x*u%m=Nat.gcd x m%m))=true:=by decide
theorem Zlk:∀m:Nat,m≤12→∀u:Nat,u≤12→2≤m→Nat.gcd u m=1→((List.range 13).any fun v=>decide (u*v%m=1))=true:=by decide
theorem ZkI {m u:Int} (m2:2≤m) (m12:m≤12) (u0:0≤u) (u1:u≤12) (h:Int.gcd u m=1):∃v:Int,m∣u*v - 1:=by
 obtain⟨M,rfl⟩:=Int.eq_ofNat_of_zero_le (show 0≤m by omega)
 obtain⟨U,rfl⟩:=Int.eq_ofNat_of_zero_le u0
 have:=Zlk M (by omega) U (by omega) (by omega) (by simpa [Int.gcd] using h)
 obtain⟨v,_,hv⟩:=List.any_eq_true.1 this
 have hv:=of_decide_eq_true hv
 refine⟨(v:Int),((U*v / M:Nat):Int),?_⟩
 have h1:=Nat.div_add_mod (U*v) M
 rw[hv]at h1
 have:(M:Int)*((U*v / M:Nat):Int)+1=(U:Int)*(v:Int):=by exact_mod_cast h1
 omega
theorem Unit_ {m:Int} (m2:2≤m) (m12:m≤12) {own:List Int} (ho:AllIn m own) (hW:own.length≤1000000) {j:Nat} (hj:j < own.length) (hx:¬ rd own (j:Int)=0) :
  ∃u:Int,(1≤u∧u≤12)∧Int.gcd u m=1∧m∣u*rd own (j:Int) - ((Int.gcd (rd own (j:Int)) m:Nat):Int)∧ZaA.f own (j:Int) m=some (mix m u own 0 own):=by
 obtain⟨x0,x1⟩:=ho j (by omega) (by omega)
 have hG:=Gcd_ (a:=rd own (j:Int)) (b:=m) (by omega) (by omega) (by omega) (by omega)
 rw[ZaA.f_eq]
 have hex:∃u:Nat,1≤u∧u≤12∧Int.gcd (u:Int) m=1∧(rd own (j:Int)*u)%m=((Int.gcd (rd own (j:Int)) m:Nat):Int)%m:=by
  obtain⟨X,hX⟩:=Int.eq_ofNat_of_zero_le x0
  obtain⟨M,rfl⟩:=Int.eq_ofNat_of_zero_le (show 0≤m by omega)
  have:=ZkK M (by omega) X (by omega) (by omega)
  obtain⟨u,hu1,hu2⟩:=List.any_eq_true.1 this
  have hu1:=List.mem_range.1 hu1
  simp only[Bool.and_eq_true,decide_eq_true_eq]at hu2
  refine⟨u,hu2.1.1,by omega,by simpa [Int.gcd] using hu2.1.2,?_⟩
  rw[hX]
  have h2:=hu2.2
  have e:Int.gcd (X:Int) (M:Int)=Nat.gcd X M:=by simp[Int.gcd]
  rw[e]
  exact_mod_cast h2
 obtain⟨u0,u1,u2,u3,u4⟩:=hex
 have hd:0 < ((Int.gcd (rd own (j:Int)) m:Nat):Int)∧((Int.gcd (rd own (j:Int)) m:Nat):Int) < m:=by
  have h1:((Int.gcd (rd own (j:Int)) m:Nat):Int)≤rd own (j:Int):=Int.le_of_dvd (by omega) (Int.gcd_dvd_left ..)
  have h2:0 < Int.gcd (rd own (j:Int)) m:=Int.gcd_pos_of_ne_zero_left _ hx
  omega
 generalize ((Int.gcd (rd own (j:Int)) m:Nat):Int)=d at hd u4 hG ⊢
 have hdm:d.tmod m=d:=by rw[Int.tmod_eq_emod_of_nonneg (by omega),Int.emod_eq_of_lt (by omega) (by omega)]
 rw[Int.emod_eq_of_lt (a:=d) (by omega) (by omega)]at u4
 have loop:∀(n u:Nat),1≤u→u+n=u0→∃u' : Int,(1≤u' ∧ u' ≤ 12)∧Int.gcd u' m=1∧m∣u' * rd own (j:Int) - d∧ZaA.l0 own (j:Int) m d (u:Int)=some (mix m u' own 0 own):=by
  intro n
  induction n with
  | zero =>
   intro u hu hn
   obtain rfl:u=u0:=by omega
   have hg:=Gcd_ (a:=(u:Int)) (b:=m) (by omega) (by omega) (by omega) (by omega)
   rw[u3]at hg
   have hmix:=Mix_ m2 m12 (x:=(u:Int)) (y:=0) ho ho rfl hW (by omega) (by omega) (by omega) (by omega)
   have p1:=ZeQ (x:=(u:Int)) (a:=rd own (j:Int)) (B:=12) (by omega) (by omega) x0 x1 m12 (by omega)
   have p2:0≤(u:Int)*rd own (j:Int):=Int.mul_nonneg (by omega) x0
   have e1:wrapI (rd own (j:Int)*(u:Int))=(u:Int)*rd own (j:Int):=by rw[Int.mul_comm,w64 (by omega) (by omega)]
   have e2:((u:Int)*rd own (j:Int)).tmod m=d.tmod m:=by rw[hdm,Int.tmod_eq_emod_of_nonneg p2,Int.mul_comm,u4]
   refine⟨(u:Int),by omega,u3,?_,?_⟩
   ·
    rw[←u4,Int.mul_comm];exact Int.dvd_self_sub_emod
   ·
    rw[ZaA.l0_eq,e1]
    ((with_reducible repeat (first|refine Zj (by first|assumption|omega|rfl|exact B_pos (by omega)) ?_|refine Zi (by first|assumption|omega|decide|exact B_not (by omega)) ?_|refine Za (by first|assumption) ?_|dsimp only));first|done|(with_reducible rfl)|simp (disch:=omega) only[w64]|(show False;done))
  | succ n ih =>
   intro u hu hn
   have hg:=Gcd_ (a:=(u:Int)) (b:=m) (by omega) (by omega) (by omega) (by omega)
   have p1:=ZeQ (x:=(u:Int)) (a:=rd own (j:Int)) (B:=12) (by omega) (by omega) x0 x1 m12 (by omega)
   have p2:0≤(u:Int)*rd own (j:Int):=Int.mul_nonneg (by omega) x0
   have e1:wrapI (rd own (j:Int)*(u:Int))=(u:Int)*rd own (j:Int):=by rw[Int.mul_comm,w64 (by omega) (by omega)]
   by_cases h1:Int.gcd (u:Int) m=1
   ·
    rw[h1]at hg
    by_cases h2:((u:Int)*rd own (j:Int)).tmod m=d.tmod m
    ·
     have hmix:=Mix_ m2 m12 (x:=(u:Int)) (y:=0) ho ho rfl hW (by omega) (by omega) (by omega) (by omega)
     refine⟨(u:Int),by omega,h1,?_,?_⟩
     ·
      rw[hdm,Int.tmod_eq_emod_of_nonneg p2]at h2
      rw[←h2];exact Int.dvd_self_sub_emod
     ·
      rw[ZaA.l0_eq,e1]
      ((with_reducible repeat (first|refine Zj (by first|assumption|omega|rfl|exact B_pos (by omega)) ?_|refine Zi (by first|assumption|omega|decide|exact B_not (by omega)) ?_|refine Za (by first|assumption) ?_|dsimp only));first|done|(with_reducible rfl)|simp (disch:=omega) only[w64]|(show False;done))
    ·
     obtain⟨u', k1,k2,k3,k4⟩:=ih (u+1) (by omega) (by omega)
     refine⟨u', k1,k2,k3,?_⟩
     rw[ZaA.l0_eq,e1,wn (j:=u) (by omega)]
     (with_reducible repeat (first|refine Zj (by first|assumption|omega|rfl|exact B_pos (by omega)) ?_|refine Zi (by first|assumption|omega|decide|exact B_not (by omega)) ?_|refine Za (by first|assumption) ?_|dsimp only))
     exact k4
   ·
    have h1' : ¬ ((Int.gcd (u:Int) m:Nat):Int)=1:=by omega
    obtain⟨u', k1,k2,k3,k4⟩:=ih (u+1) (by omega) (by omega)
    refine⟨u', k1,k2,k3,?_⟩
    rw[ZaA.l0_eq,wn (j:=u) (by omega)]
    (with_reducible repeat (first|refine Zj (by first|assumption|omega|rfl|exact B_pos (by omega)) ?_|refine Zi (by first|assumption|omega|decide|exact B_not (by omega)) ?_|refine Za (by first|assumption) ?_|dsimp only))
    exact k4
 obtain⟨u', k1,k2,k3,k4⟩:=loop (u0 - 1) 1 (by omega) (by omega)
 refine⟨u', k1,k2,k3,?_⟩
 (with_reducible repeat (first|refine Zj (by first|assumption|omega|rfl|exact B_pos (by omega)) ?_|refine Zi (by first|assumption|omega|decide|exact B_not (by omega)) ?_|refine Za (by first|assumption) ?_|dsimp only))
 exact k4
end Go.Proofs.YthmcpmnhdbeahaaGreat.V
namespace Go.Proofs.YthmcpmnhdbeahaaGreat.V
open Go.RowKit Go.Proofs.YthmcpmnhdbeahaaGreat.D
theorem Zct {p:List (List Int)} {j:Nat} {n:List Int} (h:j < p.length):row (p.set j n) (j:Int)=n:=by
 rw[ZdG (by rw[List.length_set];exact h)]
 simp
theorem ZcB {p:List (List Int)} {i j:Nat} {n:List Int} (h:i≠j):row (p.set j n) (i:Int)=row p (i:Int):=by
 simp only[row,Int.toNat_natCast,List.getD_eq_getElem?_getD,List.getElem?_set,if_neg (show ¬ j=i from fun e=>h e.symm)]
def Zb (k:Nat) (s:List Int):Prop:=∀i:Nat,i < k→rd s (i:Int)=0
section
variable {m:Int} {W:Nat} {p p' st st' : List (List Int)} {M:Vc→Prop}
theorem PTab.set (h:PTab m W p) {j:Nat} {n:List Int} (hj:j < W) (hn:PRow m W j n):PTab m W (p.set j n) where
 len:=by rw[List.length_set];exact h.len
 rws:=fun i hi=>by
  by_cases e:i=j
  ·
   subst e;rw[Zct (by rw[h.len];exact hj)];exact .inr hn
  ·
   rw[ZcB e];exact h.rws i hi
theorem PRow.ne {j:Nat} {n:List Int} (h:PRow m W j n):n≠[]:=fun e=>by
 have:=h.pos
 rw[e]at this
 simp[rd]at this
def dsum (m:Int) (p:List (List Int)):Nat→Int
 | 0=>0
 | k+1=>dsum m p k+dv m p k
theorem Zd1 (hl:p.length=W) {j:Nat} {n:List Int} (hj:j < W) (hn:n≠[]):dv m (p.set j n) j=rd n (j:Int):=by
 unfold dv;rw[Zct (by omega),if_neg hn]
theorem Zjc {i j:Nat} {n:List Int} (h:i≠j):dv m (p.set j n) i=dv m p i:=by
 unfold dv;rw[ZcB h]
theorem Zgh (hl:p.length=W) {j:Nat} {n:List Int} (hj:j < W):∀k,dsum m (p.set j n) k=dsum m p k+if j < k then dv m (p.set j n) j - dv m p j else 0:=by
 intro k
 induction k with
 | zero=>simp[dsum]
 | succ k ih =>
  rw[dsum,dsum,ih]
  by_cases e:j=k
  ·
   subst e
   rw[if_neg (Nat.lt_irrefl j),if_pos (Nat.lt_succ_self j)];omega
  ·
   rw[Zjc (fun q=>e q.symm)]
   by_cases h:j < k
   ·
    rw[if_pos h,if_pos (by omega)];omega
   ·
    rw[if_neg h,if_neg (by omega)];omega
theorem Zc9 (m0:0 < m) (ht:PTab m W p):∀k,k≤W→0≤dsum m p k∧dsum m p k≤m*k:=by
 intro k
 induction k with
 | zero=>intro _;simp[dsum]
 | succ k ih =>
  intro hk
  obtain⟨a,b⟩:=ih (by omega)
  obtain⟨c,d,_⟩:=dv_bd m0 ht (show k < W by omega)
  rw[dsum,show m*((k+1:Nat):Int)=m*(k:Int)+m by rw[Int.natCast_add,Int.mul_add];simp]
  omega
structure Pst (m:Int) (W:Nat) (p st:List (List Int)) (M:Vc→Prop):Prop where
 inv:Inv m W p st
 spn:∀x,Sp m W (GT W p st 0) x↔M x
theorem Pst.step (h:Pst m W p st M) (ht:PTab m W p') (hs:∀s∈st', s.length=W∧AllIn m s)
  (ha:∀k g,GT W p st k g→Sp m W (GT W p' st' k) g) (hb:∀g,GT W p' st' 0 g→Sp m W (GT W p st 0) g)
  (hn:∀j:Nat,j < W→row p' (j:Int)≠[]→row p' (j:Int)≠row p (j:Int)→Sp m W (GT W p' st' (j+1)) (fun i=>m / rd (row p' (j:Int)) (j:Int)*rd (row p' (j:Int)) (i:Int))):Pst m W p' st' M where
 inv:=⟨ht,hs,fun j hj hr=>by
  by_cases e:row p' (j:Int)=row p (j:Int)
  ·
   have:=h.inv.how j hj (by rw[←e];exact hr)
   rw[e]
   exact this.mono (ha (j+1))
  ·
   exact hn j hj hr e⟩
 spn:=fun x=>by
  rw[←h.spn x]
  exact⟨fun hx=>hx.mono hb,fun hx=>hx.mono (ha 0)⟩
theorem GT.zb {k:Nat} {s:List Int} (hs:s∈st) (hz:Zb k s):GT W p st k (V s) := .inr ⟨s,hs,hz,rfl⟩
theorem Pst.drop {v:List Int} (h:Pst m W p (st++[v]) M) (hz:Zb W v):Pst m W p st M:=by
 refine h.step h.inv.tab (fun s hs=>h.inv.sts s (List.mem_append_left _ hs)) (fun k g hg => ?_) (fun g hg => .gen ?_) (fun j _ _ e=>absurd rfl e)
 ·
  rcases hg with hg|⟨s,hs,hk,rfl⟩
  ·
   exact .gen (.inl hg)
  ·
   rcases List.mem_append.1 hs with hs|hs
   ·
    exact .gen (.inr ⟨s,hs,hk,rfl⟩)
   ·
    rw[List.mem_singleton]at hs
    subst hs
    exact .alike .nil fun i hi=>by rw[show V s i=0 from hz i hi];exact⟨0,by omega⟩
 ·
  rcases hg with hg|⟨s,hs,hk,rfl⟩
  ·
   exact .inl hg
  ·
   exact .inr ⟨s,List.mem_append_left _ hs,hk,rfl⟩
theorem Pst.less {v w:List Int} {c:Int} (h:Pst m W p (st++[v]) M) {j:Nat} (hj:j < W) (hr:row p (j:Int)≠[]) (hvj:rd v (j:Int)≠0) (hw:w.length=W∧AllIn m w) (hz:Zb j w)
  (he:∀i:Nat,i < W→m∣1*rd v (i:Int)+(-c)*rd (row p (j:Int)) (i:Int) - rd w (i:Int)):Pst m W p (st++[w]) M:=by
 refine h.step h.inv.tab (fun s hs => ?_) (fun k g hg => ?_) (fun g hg => ?_) (fun j _ _ e=>absurd rfl e)
 ·
  rcases List.mem_append.1 hs with hs|hs
  ·
   exact h.inv.sts s (List.mem_append_left _ hs)
  ·
   rw[List.mem_singleton]at hs;subst hs;exact hw
 ·
  rcases hg with hg|⟨s,hs,hk,rfl⟩
  ·
   exact .gen (.inl hg)
  ·
   rcases List.mem_append.1 hs with hs|hs
   ·
    exact .gen (.inr ⟨s,List.mem_append_left _ hs,hk,rfl⟩)
   ·
    rw[List.mem_singleton]at hs
    subst hs
    have hkj:k≤j:=by
     by_cases q:k≤j
     ·
      exact q
     ·
      exact absurd (hk j (by omega)) hvj
    refine Sp.two (a:=1) (b:=c) (x:=V w) (y:=V (row p (j:Int))) (.gen (GT.zb (List.mem_append_right _ (List.mem_singleton.2 rfl)) fun i hi=>hz i (by omega))) (.gen (.inl ⟨j,hkj,hj,hr,rfl⟩)) fun i hi => ?_
    obtain⟨q,hq⟩:=he i hi
    refine⟨-q,?_⟩
    rw[Int.mul_neg,←hq,Int.neg_mul]
    show 1*rd w (i:Int)+c*rd (row p (j:Int)) (i:Int) - rd s (i:Int)=_
    omega
 ·
  rcases hg with hg|⟨s,hs,hk,rfl⟩
  ·
   exact .gen (.inl hg)
  ·
   rcases List.mem_append.1 hs with hs|hs
   ·
    exact .gen (.inr ⟨s,List.mem_append_left _ hs,hk,rfl⟩)
   ·
    rw[List.mem_singleton]at hs
    subst hs
    exact Sp.two (a:=1) (b := -c) (x:=V v) (y:=V (row p (j:Int))) (.gen (GT.zb (List.mem_append_right _ (List.mem_singleton.2 rfl)) fun i hi=>by omega)) (.gen (.inl ⟨j,Nat.zero_le _,hj,hr,rfl⟩)) fun i hi=>he i hi
theorem Pst.swap {v n:List Int} {ws:List (List Int)} (h:Pst m W p (st++[v]) M) {j:Nat} (hj:j < W) (hvj:rd v (j:Int)≠0) (hn:PRow m W j n) (hws:∀w∈ws,(w.length=W∧AllIn m w)∧Zb (j+1) w)
  (ho:row p (j:Int)≠[]→Sp m W (fun g=>g=V n∨∃w∈ws,g=V w) (V (row p (j:Int))))
  (hv:Sp m W (fun g=>g=V n∨∃w∈ws,g=V w) (V v))
  (hd:Sp m W (fun g=>∃w∈ws,g=V w) (fun i=>m / rd n (j:Int)*rd n (i:Int)))
  (hb:∀g,(g=V n∨∃w∈ws,g=V w)→Sp m W (fun g=>g=V v∨(row p (j:Int)≠[]∧g=V (row p (j:Int)))) g):Pst m W (p.set j n) (st++ws) M:=by
 have hpl:j < p.length:=by rw[h.inv.tab.len];exact hj
 have hsame:row (p.set j n) (j:Int)=n:=Zct hpl
 have new:∀k,k≤j→∀g,(g=V n∨∃w∈ws,g=V w)→Sp m W (GT W (p.set j n) (st++ws) k) g:=fun k hk g hg=>by
  rcases hg with rfl|⟨w,hw,rfl⟩
  ·
   exact .gen (.inl ⟨j,hk,hj,by rw[hsame];exact hn.ne,by rw[hsame]⟩)
  ·
   exact .gen (GT.zb (List.mem_append_right _ hw) fun i hi=>(hws w hw).2 i (by omega))
 have old:∀g,(g=V v∨(row p (j:Int)≠[]∧g=V (row p (j:Int))))→Sp m W (GT W p (st++[v]) 0) g:=fun g hg=>by
  rcases hg with rfl|⟨hr,rfl⟩
  ·
   exact .gen (GT.zb (List.mem_append_right _ (List.mem_singleton.2 rfl)) fun i hi=>by omega)
  ·
   exact .gen (.inl ⟨j,Nat.zero_le _,hj,hr,rfl⟩)
 refine h.step (h.inv.tab.set hj hn) (fun s hs => ?_) (fun k g hg => ?_) (fun g hg => ?_) (fun i hi hr e => ?_)
 ·
  rcases List.mem_append.1 hs with hs|hs
  ·
   exact h.inv.sts s (List.mem_append_left _ hs)
  ·
   exact(hws s hs).1
 ·
  rcases hg with ⟨i,hk,hi,hr,rfl⟩|⟨s,hs,hk,rfl⟩
  ·
   by_cases e:i=j
   ·
    subst e
    exact(ho hr).mono (new k hk)
   ·
    exact .gen (.inl ⟨i,hk,hi,by rw[ZcB e];exact hr,by rw[ZcB e]⟩)
  ·
   rcases List.mem_append.1 hs with hs|hs
   ·
    exact .gen (.inr ⟨s,List.mem_append_left _ hs,hk,rfl⟩)
   ·
    rw[List.mem_singleton]at hs
    subst hs
    have hkj:k≤j:=by
     by_cases q:k≤j
     ·
      exact q
     ·
      exact absurd (hk j (by omega)) hvj
    exact hv.mono (new k hkj)
 ·
  rcases hg with ⟨i,hk,hi,hr,rfl⟩|⟨s,hs,hk,rfl⟩
  ·
   by_cases e:i=j
   ·
    subst e
    rw[hsame]
    exact(hb _ (.inl rfl)).mono old
   ·
    rw[ZcB e]at hr ⊢
    exact .gen (.inl ⟨i,hk,hi,hr,rfl⟩)
  ·
   rcases List.mem_append.1 hs with hs|hs
   ·
    exact .gen (.inr ⟨s,List.mem_append_left _ hs,hk,rfl⟩)
   ·
    exact(hb _ (.inr ⟨s,hs,rfl⟩)).mono old
 ·
  by_cases q:i=j
  ·
   subst q
   rw[hsame]
   exact hd.mono fun g hg=>by
    obtain⟨w,hw,rfl⟩:=hg
    exact .gen (GT.zb (List.mem_append_right _ hw) (hws w hw).2)
  ·
   exact absurd (ZcB q) e
end
end Go.Proofs.YthmcpmnhdbeahaaGreat.V
set_option maxHeartbeats 4000000
namespace Go.Proofs.YthmcpmnhdbeahaaGreat.V
open Go.RowKit Go.Proofs.YthmcpmnhdbeahaaGreat.D Go.Proofs.YthmcpmnhdbeahaaGreat.P
theorem indexFunc (v:List Int) (hl:v.length≤1000000):(Zb v.length v∧Zd.f v (fun z0=>(Zav.f z0).map fun z=>z)=some (-1)) ∨
  ∃j:Nat,j < v.length∧Zb j v∧¬ rd v (j:Int)=0∧Zd.f v (fun z0=>(Zav.f z0).map fun z=>z)=some (j:Int):=by
 rw[Zd.f_eq]
 obtain⟨F,hF⟩:∃F:Int→Option Bool,F=fun z0=>(Zav.f z0).map fun z=>z:=⟨_,rfl⟩
 rw[←hF]
 have hf:∀x,F x=some (!decide (x=0)):=fun x=>by rw[hF];show Option.map _ (Zav.f x)=_;rw[Zav.f_eq];rfl
 suffices H:∀d k:Nat,k+d=v.length→Zb k v→(Zb v.length v∧Zd.l0 v F (v.length:Int) (k:Int)=some (-1)) ∨
   ∃j:Nat,j < v.length∧Zb j v∧¬ rd v (j:Int)=0∧Zd.l0 v F (v.length:Int) (k:Int)=some (j:Int)from
  H v.length 0 (by omega) (fun i hi=>by omega)
 intro d
 induction d with
 | zero =>
  intro k hd hz
  obtain rfl:k=v.length:=by omega
  refine .inl ⟨hz,?_⟩
  (rw[Zd.l0_eq])
  ((with_reducible repeat (first|refine Zj (by first|assumption|omega|rfl|exact B_pos (by omega)) ?_|refine Zi (by first|assumption|omega|decide|exact B_not (by omega)) ?_|refine Za (by first|assumption) ?_|dsimp only));first|done|(with_reducible rfl)|simp (disch:=omega) only[w64]|(show False;done))
 | succ d ih =>
  intro k hd hz
  have hfk:=hf (rd v (k:Int))
  by_cases h:rd v (k:Int)=0
  ·
   have st:Zd.l0 v F (v.length:Int) (k:Int)=Zd.l0 v F (v.length:Int) ((k+1:Nat):Int):=by
    rw[h]at hfk
    rw[Zd.l0_eq,wn (j:=k) (by omega),h]
    (with_reducible repeat (first|refine Zj (by first|assumption|omega|rfl|exact B_pos (by omega)) ?_|refine Zi (by first|assumption|omega|decide|exact B_not (by omega)) ?_|refine Za (by first|assumption) ?_|dsimp only))
   rw[st]
   refine ih (k+1) (by omega) fun i hi => ?_
   by_cases e:i=k
   ·
    rw[e];exact h
   ·
    exact hz i (by omega)
  ·
   refine .inr ⟨k,by omega,hz,h,?_⟩
   rw[Zd.l0_eq]
   (with_reducible repeat (first|refine Zj (by first|assumption|omega|rfl|exact B_pos (by omega)) ?_|refine Zi (by first|assumption|omega|decide|exact B_not (by omega)) ?_|refine Za (by first|assumption) ?_|dsimp only))
   rw[decide_eq_false h]
   rfl
theorem Zb5 (n:Nat) (i:Int):rd (List.replicate n (0:Int)) i=0:=by
 simp only[rd,List.getD_eq_getElem?_getD,List.getElem?_replicate]
 split <;> rfl
theorem Ze5 {m:Int} (m0:0 < m) (n:Nat):AllIn m (List.replicate n (0:Int)):=fun i _ _=>by rw[Zb5];omega
theorem Zic {m a b c e:Int} (h:m∣1*a+(-e)*b - c):m∣1*c+e*b - a:=by
 obtain⟨q,hq⟩:=h
 refine⟨-q,?_⟩
 rw[Int.mul_neg,←hq,Int.neg_mul]
 omega
theorem ZgG {d e:Int} (d0:0 < d):Int.tdiv (0 - d*e) d = -e:=by
 rw[show 0 - d*e=d*(-e)by rw[Int.mul_neg];omega]
 exact Int.mul_tdiv_cancel_left _ (by omega)
theorem Ze2 (st:List (List Int)) (v:List Int):row (st++[v]) (st.length:Int)=v:=by simp[row,List.getD_eq_getElem?_getD]
theorem Zeq (st:List (List Int)) (v:List Int):(st++[v]).take st.length=st:=by simp
theorem Zdf {d e x:Int} (d0:0 < d) (h:x=d*e) (x0:0≤x) (x1:x≤12):0≤e∧e≤12:=by
 constructor
 ·
  by_cases q:0≤e
  ·
   exact q
  ·
   have:=Int.mul_le_mul_of_nonneg_left (show e ≤ -1 by omega) (Int.le_of_lt d0)
   omega
 ·
  by_cases q:e≤12
  ·
   exact q
  ·
   have h1:=Int.mul_le_mul_of_nonneg_right (show 1≤d by omega) (show 0≤e by omega)
   omega
theorem put_top {m:Int} (m2:2≤m) (m12:m≤12) {W:Nat} (hW:W≤100000) {M:Vc→Prop}:∀(n j:Nat) (v:List Int) (p st:List (List Int)),W≤j+n→Zb j v→Pst m W p (st++[v]) M→st.length≤1000000000 →
  (Zx.l0 m p (st++[v])=Zx.l0 m p st∧Pst m W p st M) ∨
  ∃p' ws,Zx.l0 m p (st++[v])=Zx.l0 m p' (st++ws)∧ws.length=3∧Pst m W p' (st++ws) M∧dsum m p' W < dsum m p W:=by
 intro n
 induction n with
 | zero =>
  intro j v p st hj hz h hst
  obtain⟨hvl,hva⟩:=h.inv.sts v (List.mem_append_right _ (List.mem_singleton.2 rfl))
  have e0:(st++[v]).length=st.length+1:=by simp
  have e1:wrapI (((st++[v]).length:Int) - 1)=(st.length:Int):=by rw[w64 (by omega) (by omega)];omega
  rcases indexFunc v (by omega)with ⟨hzz,hI⟩|⟨i,hi,hzi,hne,hI⟩
  ·
   rw[hvl]at hzz
   refine .inl ⟨?_,h.drop hzz⟩
   rw[Zx.l0_eq,e1,Ze2,Int.toNat_natCast,Zeq]
   ((with_reducible repeat (first|refine Zj (by first|assumption|omega|rfl|exact B_pos (by omega)) ?_|refine Zi (by first|assumption|omega|decide|exact B_not (by omega)) ?_|refine Za (by first|assumption) ?_|dsimp only));first|done|(with_reducible rfl)|simp (disch:=omega) only[w64]|(show False;done))
  ·
   exact absurd (hz i (by omega)) hne
 | succ n ih =>
  intro j v p st hj hz h hst
  obtain⟨hvl,hva⟩:=h.inv.sts v (List.mem_append_right _ (List.mem_singleton.2 rfl))
  have e0:(st++[v]).length=st.length+1:=by simp
  have e1:wrapI (((st++[v]).length:Int) - 1)=(st.length:Int):=by rw[w64 (by omega) (by omega)];omega
  rcases indexFunc v (by omega)with ⟨hzz,hI⟩|⟨i,hi,hzi,hne,hI⟩
  ·
   rw[hvl]at hzz
   refine .inl ⟨?_,h.drop hzz⟩
   rw[Zx.l0_eq,e1,Ze2,Int.toNat_natCast,Zeq]
   ((with_reducible repeat (first|refine Zj (by first|assumption|omega|rfl|exact B_pos (by omega)) ?_|refine Zi (by first|assumption|omega|decide|exact B_not (by omega)) ?_|refine Za (by first|assumption) ?_|dsimp only));first|done|(with_reducible rfl)|simp (disch:=omega) only[w64]|(show False;done))
  have hij:j≤i:=by
   by_cases q:j≤i
   ·
    exact q
   ·
    exact absurd (hz i (by omega)) hne
  have hpl:=h.inv.tab.len
  have hiW:i < W:=by omega
  obtain⟨v0,v1⟩:=hva i (by omega) (by omega)
  have swap:∀o:List Int,(row p (i:Int)=[]∧o=List.replicate v.length 0∨row p (i:Int)≠[]∧o=row p (i:Int))→(¬ rd o (i:Int)=0→¬ Int.tmod (rd v (i:Int)) (rd o (i:Int))=0) →
    ∃p' ws,Zx.j1 v i o m p st=Zx.l0 m p' (st++ws)∧ws.length=3∧Pst m W p' (st++ws) M∧dsum m p' W < dsum m p W:=by
   intro o ho hnd
   have ol:o.length=W:=by
    rcases ho with ⟨_,rfl⟩|⟨hr,rfl⟩
    ·
     rw[List.length_replicate];exact hvl
    ·
     exact(h.inv.tab.prow hiW hr).len
   have oa:AllIn m o:=by
    rcases ho with ⟨_,rfl⟩|⟨hr,rfl⟩
    ·
     exact Ze5 (by omega) _
    ·
     exact(h.inv.tab.prow hiW hr).ent
   have oz:Zb i o:=by
    rcases ho with ⟨_,rfl⟩|⟨hr,rfl⟩
    ·
     exact fun k _=>Zb5 _ _
    ·
     exact(h.inv.tab.prow hiW hr).zero
   obtain⟨o0,o1⟩:=oa i (by omega) (by omega)
   obtain⟨x,y,hbz,hx,hy,hxy⟩:=bezout m2 m12 (p:=p) (a:=rd o (i:Int)) (b:=rd v (i:Int)) o0 (by omega) v0 (by omega)
   have dm:((Int.gcd ((Int.gcd (rd o (i:Int)) (rd v (i:Int)):Nat):Int) m:Nat):Int)∣m:=Int.gcd_dvd_right ..
   have dg:((Int.gcd ((Int.gcd (rd o (i:Int)) (rd v (i:Int)):Nat):Int) m:Nat):Int)∣((Int.gcd (rd o (i:Int)) (rd v (i:Int)):Nat):Int):=Int.gcd_dvd_left ..
   have dO:=Int.dvd_trans dg (Int.gcd_dvd_left (a:=rd o (i:Int)) (b:=rd v (i:Int)))
   have dV:=Int.dvd_trans dg (Int.gcd_dvd_right (a:=rd o (i:Int)) (b:=rd v (i:Int)))
   have d0:0 < ((Int.gcd ((Int.gcd (rd o (i:Int)) (rd v (i:Int)):Nat):Int) m:Nat):Int):=by
    have:0 < Int.gcd ((Int.gcd (rd o (i:Int)) (rd v (i:Int)):Nat):Int) m:=Int.gcd_pos_of_ne_zero_right _ (by omega)
    omega
   generalize ((Int.gcd ((Int.gcd (rd o (i:Int)) (rd v (i:Int)):Nat):Int) m:Nat):Int)=d at hbz hxy dm dO dV d0
   clear dg
   have dv1:d≤rd v (i:Int):=Int.le_of_dvd (by omega) dV
   obtain⟨eo,heo⟩:=dO
   obtain⟨ev,hev⟩:=dV
   obtain⟨eo0,eo1⟩:=Zdf d0 heo o0 (by omega)
   obtain⟨ev0,ev1⟩:=Zdf d0 hev v0 (by omega)
   obtain⟨md,hmd⟩:=dm
   obtain⟨md0,md1⟩:=Zdf d0 hmd (by omega) m12
   have hmdd:Int.tdiv m d=md:=by rw[hmd];exact Int.mul_tdiv_cancel_left _ (by omega)
   have hmde:m / d=md:=by rw[hmd];exact Int.mul_ediv_cancel_left _ (by omega)
   have c1:=combined m2 m12 (p:=p) (x:=x) (y:=y) oa hva (by omega) (by omega) (by omega) (by omega) (by omega) (by omega)
   obtain⟨nx,hnx⟩:∃nx,nx=mix m x o y v:=⟨_,rfl⟩
   have nl:nx.length=W:=by rw[hnx,ZbB,ol]
   have na:AllIn m nx:=by rw[hnx];exact ZcY (by omega)
   have nz:Zb i nx:=fun k hk=>by
    rw[hnx,Zcr (by omega),oz k hk,hzi k hk];simp
   have nd:rd nx (i:Int)=d:=by
    rw[hnx,Zcr (by omega)]
    have:(x*rd o (i:Int)+y*rd v (i:Int))%m=d%m:=by
     obtain⟨q,hq⟩:=hxy
     rw[show x*rd o (i:Int)+y*rd v (i:Int)=d+m*q by omega,Int.add_mul_emod_self_left]
    rw[this,Int.emod_eq_of_lt (by omega) (by omega)]
   have nP:PRow m W i nx:=⟨nl,na,nz,by omega,by omega,by rw[nd];exact⟨md,hmd⟩⟩
   rw[←hnx]at c1
   have c2:=combined m2 m12 (p:=p.set i nx) (x:=1) (y := -eo) oa na (by omega) (by omega) (by omega) (by omega) (by omega) (by omega)
   have c3:=combined m2 m12 (p:=p.set i nx) (x:=1) (y := -ev) hva na (by omega) (by omega) (by omega) (by omega) (by omega) (by omega)
   have c4:=combined m2 m12 (p:=p.set i nx) (x:=md) (y:=0) na na rfl (by omega) (by omega) (by omega) (by omega) (by omega)
   have f1:wrapI ((wrapI (0 - rd o (i:Int))).tdiv d) = -eo:=by rw[w64 (x:=0 - rd o (i:Int)) (by omega) (by omega),heo,ZgG d0,w64 (by omega) (by omega)]
   have f2:wrapI ((wrapI (0 - rd v (i:Int))).tdiv d) = -ev:=by rw[w64 (x:=0 - rd v (i:Int)) (by omega) (by omega),hev,ZgG d0,w64 (by omega) (by omega)]
   have f3:wrapI (Int.tdiv m d)=md:=by rw[hmdd];exact w64 (by omega) (by omega)
   have l3:∀a b c:List Int,([a,b,c]:List (List Int)).length=3:=fun _ _ _=>rfl
   have hset:(p.set i nx).length=W:=by rw[List.length_set];exact hpl
   refine⟨p.set i nx,[mix m 1 o (-eo) nx,mix m 1 v (-ev) nx,mix m md nx 0 nx],?_,rfl,?_,?_⟩
   ·
    rw[Zx.j1_eq]
    by_cases q:rd o (i:Int)=0
    ·
     (with_reducible repeat (first|refine Zj (by first|assumption|omega|rfl|exact B_pos (by omega)) ?_|refine Zi (by first|assumption|omega|decide|exact B_not (by omega)) ?_|refine Za (by first|assumption) ?_|dsimp only))
     rw[Int.toNat_natCast,f1]
     (with_reducible repeat (first|refine Zj (by first|assumption|omega|rfl|exact B_pos (by omega)) ?_|refine Zi (by first|assumption|omega|decide|exact B_not (by omega)) ?_|refine Za (by first|assumption) ?_|dsimp only))
     rw[f2]
     (with_reducible repeat (first|refine Zj (by first|assumption|omega|rfl|exact B_pos (by omega)) ?_|refine Zi (by first|assumption|omega|decide|exact B_not (by omega)) ?_|refine Za (by first|assumption) ?_|dsimp only))
     rw[f3]
     (with_reducible repeat (first|refine Zj (by first|assumption|omega|rfl|exact B_pos (by omega)) ?_|refine Zi (by first|assumption|omega|decide|exact B_not (by omega)) ?_|refine Za (by first|assumption) ?_|dsimp only))
     rw[l3]
     (with_reducible repeat (first|refine Zj (by first|assumption|omega|rfl|exact B_pos (by omega)) ?_|refine Zi (by first|assumption|omega|decide|exact B_not (by omega)) ?_|refine Za (by first|assumption) ?_|dsimp only))
    ·
     have q2:=hnd q
     (with_reducible repeat (first|refine Zj (by first|assumption|omega|rfl|exact B_pos (by omega)) ?_|refine Zi (by first|assumption|omega|decide|exact B_not (by omega)) ?_|refine Za (by first|assumption) ?_|dsimp only))
     rw[Int.toNat_natCast,f1]
     (with_reducible repeat (first|refine Zj (by first|assumption|omega|rfl|exact B_pos (by omega)) ?_|refine Zi (by first|assumption|omega|decide|exact B_not (by omega)) ?_|refine Za (by first|assumption) ?_|dsimp only))
     rw[f2]
     (with_reducible repeat (first|refine Zj (by first|assumption|omega|rfl|exact B_pos (by omega)) ?_|refine Zi (by first|assumption|omega|decide|exact B_not (by omega)) ?_|refine Za (by first|assumption) ?_|dsimp only))
     rw[f3]
     (with_reducible repeat (first|refine Zj (by first|assumption|omega|rfl|exact B_pos (by omega)) ?_|refine Zi (by first|assumption|omega|decide|exact B_not (by omega)) ?_|refine Za (by first|assumption) ?_|dsimp only))
     rw[l3]
     (with_reducible repeat (first|refine Zj (by first|assumption|omega|rfl|exact B_pos (by omega)) ?_|refine Zi (by first|assumption|omega|decide|exact B_not (by omega)) ?_|refine Za (by first|assumption) ?_|dsimp only))
   ·
    have g0:∀k:Nat,k < W→m∣1*rd o (k:Int)+(-eo)*rd nx (k:Int) - rd (mix m 1 o (-eo) nx) (k:Int):=fun k hk=>Zcv (by omega)
    have g1:∀k:Nat,k < W→m∣1*rd v (k:Int)+(-ev)*rd nx (k:Int) - rd (mix m 1 v (-ev) nx) (k:Int):=fun k hk=>Zcv (by omega)
    have g2:∀k:Nat,k < W→m∣md*rd nx (k:Int)+0*rd nx (k:Int) - rd (mix m md nx 0 nx) (k:Int):=fun k hk=>Zcv (by omega)
    have zb:∀(a b:Int) (r:List Int),r.length=W→Zb i r→a*rd r (i:Int)+b*d=0∨a*rd r (i:Int)+b*d=m→Zb (i+1) (mix m a r b nx):=fun a b r hr hz hab k hk=>by
     rw[Zcr (by omega)]
     by_cases e:k=i
     ·
      subst e
      rw[nd]
      rcases hab with hab|hab <;> rw[hab]
      ·
       exact Int.zero_emod m
      ·
       exact Int.emod_self
     ·
      rw[hz k (by omega),nz k (by omega)];simp
    refine h.swap hiW hne nP (fun w hw => ?_) (fun hr => ?_) ?_ ?_ ?_
    ·
     simp only[List.mem_cons,List.not_mem_nil,or_false]at hw
     rcases hw with rfl|rfl|rfl
     ·
      exact⟨⟨by rw[ZbB];exact ol,ZcY (by omega)⟩,zb 1 (-eo) o ol oz (.inl (by rw[heo,Int.neg_mul,Int.mul_comm eo d];omega))⟩
     ·
      exact⟨⟨by rw[ZbB];exact hvl,ZcY (by omega)⟩,zb 1 (-ev) v hvl hzi (.inl (by rw[hev,Int.neg_mul,Int.mul_comm ev d];omega))⟩
     ·
      exact⟨⟨by rw[ZbB];exact nl,ZcY (by omega)⟩,zb md 0 nx nl nz (.inr (by rw[nd,hmd,Int.mul_comm md d];omega))⟩
    ·
     have ho' : o=row p (i:Int):=by
      rcases ho with ⟨e,_⟩|⟨_,e⟩
      ·
       exact absurd e hr
      ·
       exact e
     rw[←ho']
     exact Sp.two (a:=1) (b:=eo) (x:=V (mix m 1 o (-eo) nx)) (y:=V nx) (.gen (.inr ⟨_,List.mem_cons_self ..,rfl⟩)) (.gen (.inl rfl)) fun k hk=>Zic (g0 k hk)
    ·
     exact Sp.two (a:=1) (b:=ev) (x:=V (mix m 1 v (-ev) nx)) (y:=V nx) (.gen (.inr ⟨_,List.mem_cons_of_mem _ (List.mem_cons_self ..),rfl⟩)) (.gen (.inl rfl)) fun k hk=>Zic (g1 k hk)
    ·
     refine .alike (.gen ⟨_,List.mem_cons_of_mem _ (List.mem_cons_of_mem _ (List.mem_cons_self ..)),rfl⟩) fun k hk => ?_
     obtain⟨q,hq⟩:=g2 k hk
     refine⟨-q,?_⟩
     rw[nd,hmde,Int.mul_neg,←hq]
     show rd (mix m md nx 0 nx) (k:Int) - md*rd nx (k:Int)=_
     omega
    ·
     have hov:∀G:Vc→Prop,(row p (i:Int)≠[]→G (V (row p (i:Int))))→Sp m W G (V o):=fun G hG=>by
      rcases ho with ⟨_,rfl⟩|⟨hr,rfl⟩
      ·
       exact .alike .nil fun k hk=>by
        show m∣0 - rd (List.replicate v.length (0:Int)) (k:Int)
        rw[Zb5];exact⟨0,by omega⟩
      ·
       exact .gen (hG hr)
     have ho2:=hov (fun g=>g=V v∨(row p (i:Int)≠[]∧g=V (row p (i:Int)))) fun hr => .inr ⟨hr,rfl⟩
     have hn2:Sp m W (fun g=>g=V v∨(row p (i:Int)≠[]∧g=V (row p (i:Int)))) (V nx):=Sp.two (a:=x) (b:=y) (x:=V o) (y:=V v) ho2 (.gen (.inl rfl)) fun k hk=>by
      have:m∣x*rd o (k:Int)+y*rd v (k:Int) - rd (mix m x o y v) (k:Int):=Zcv (by omega)
      rwa[←hnx]at this
     intro g hg
     rcases hg with rfl|⟨w,hw,rfl⟩
     ·
      exact hn2
     simp only[List.mem_cons,List.not_mem_nil,or_false]at hw
     rcases hw with rfl|rfl|rfl
     ·
      exact Sp.two (a:=1) (b := -eo) ho2 hn2 fun k hk=>g0 k hk
     ·
      exact Sp.two (a:=1) (b := -ev) (x:=V v) (.gen (.inl rfl)) hn2 fun k hk=>g1 k hk
     ·
      exact Sp.two (a:=md) (b:=0) hn2 hn2 fun k hk=>g2 k hk
   ·
    rw[Zgh hpl hiW,if_pos hiW,Zd1 hpl hiW nP.ne,nd]
    unfold dv
    rcases ho with ⟨e,_⟩|⟨hr,e⟩
    ·
     rw[if_pos e];omega
    ·
     rw[if_neg hr,←e]
     have hO:=(h.inv.tab.prow hiW hr).pos
     rw[←e]at hO
     have q2:=hnd (by omega)
     have:d≤rd o (i:Int):=Int.le_of_dvd hO ⟨eo,heo⟩
     by_cases q:d=rd o (i:Int)
     ·
      exact absurd (Zc3.2 ⟨ev,by rw[←q];exact hev⟩) q2
     ·
      omega
  have start:∀o:List Int,(row p (i:Int)=[]∧o=List.replicate v.length 0∨row p (i:Int)≠[]∧o=row p (i:Int))→Zx.l0 m p (st++[v])=Zx.j1 v i o m p st:=by
   intro o ho
   rw[Zx.l0_eq,e1,Ze2,Int.toNat_natCast,Zeq,Int.toNat_natCast]
   rcases ho with ⟨e,rfl⟩|⟨hr,rfl⟩
   ·
    have e' : (row p (i:Int)).length=0:=by rw[e];rfl
    ((with_reducible repeat (first|refine Zj (by first|assumption|omega|rfl|exact B_pos (by omega)) ?_|refine Zi (by first|assumption|omega|decide|exact B_not (by omega)) ?_|refine Za (by first|assumption) ?_|dsimp only));first|done|(with_reducible rfl)|simp (disch:=omega) only[w64]|(show False;done))
   ·
    have e' : 0 < (row p (i:Int)).length:=List.length_pos_iff.2 hr
    ((with_reducible repeat (first|refine Zj (by first|assumption|omega|rfl|exact B_pos (by omega)) ?_|refine Zi (by first|assumption|omega|decide|exact B_not (by omega)) ?_|refine Za (by first|assumption) ?_|dsimp only));first|done|(with_reducible rfl)|simp (disch:=omega) only[w64]|(show False;done))
  by_cases hr:row p (i:Int)=[]
  ·
   have hs:=start _ (.inl ⟨hr,rfl⟩)
   obtain⟨p', ws,k1,k2,k3,k4⟩:=swap _ (.inl ⟨hr,rfl⟩) (fun q=>absurd (Zb5 _ _) q)
   exact .inr ⟨p', ws,hs.trans k1,k2,k3,k4⟩
  have hs:=start _ (.inr ⟨hr,rfl⟩)
  by_cases hd:Int.tmod (rd v (i:Int)) (rd (row p (i:Int)) (i:Int))=0
  rotate_left
  ·
   obtain⟨p', ws,k1,k2,k3,k4⟩:=swap _ (.inr ⟨hr,rfl⟩) (fun _=>hd)
   exact .inr ⟨p', ws,hs.trans k1,k2,k3,k4⟩
  have hP:=h.inv.tab.prow hiW hr
  have pl:=hP.len
  have p0:=hP.pos
  have p1:=hP.lt
  obtain⟨e,he⟩:=Zc3.1 hd
  obtain⟨ee0,ee1⟩:=Zdf p0 he v0 (by omega)
  have c1:=combined m2 m12 (p:=p) (x:=1) (y := -e) hva hP.ent (by omega) (by omega) (by omega) (by omega) (by omega) (by omega)
  have f1:wrapI ((wrapI (0 - rd v (i:Int))).tdiv (rd (row p (i:Int)) (i:Int))) = -e:=by rw[w64 (x:=0 - rd v (i:Int)) (by omega) (by omega),he,ZgG p0,w64 (by omega) (by omega)]
  have hpne:¬ rd (row p (i:Int)) (i:Int)=0:=by omega
  have l1:∀a:List Int,([a]:List (List Int)).length=1:=fun _=>rfl
  have hstep:Zx.j1 v i (row p (i:Int)) m p st=Zx.l0 m p (st++[mix m 1 v (-e) (row p (i:Int))]):=by
   rw[Zx.j1_eq,f1]
   (with_reducible repeat (first|refine Zj (by first|assumption|omega|rfl|exact B_pos (by omega)) ?_|refine Zi (by first|assumption|omega|decide|exact B_not (by omega)) ?_|refine Za (by first|assumption) ?_|dsimp only))
   rw[l1]
   ((with_reducible repeat (first|refine Zj (by first|assumption|omega|rfl|exact B_pos (by omega)) ?_|refine Zi (by first|assumption|omega|decide|exact B_not (by omega)) ?_|refine Za (by first|assumption) ?_|dsimp only));first|done|(with_reducible rfl)|simp (disch:=omega) only[w64]|(show False;done))
  have wl:(mix m 1 v (-e) (row p (i:Int))).length=W:=by rw[ZbB];exact hvl
  have wz:Zb (i+1) (mix m 1 v (-e) (row p (i:Int))):=fun k hk=>by
   rw[Zcr (by omega)]
   by_cases q:k=i
   ·
    subst q
    rw[he,show 1*(rd (row p (k:Int)) (k:Int)*e) + -e*rd (row p (k:Int)) (k:Int)=0 by rw[Int.neg_mul,Int.mul_comm e];omega]
    exact Int.zero_emod m
   ·
    rw[hzi k (by omega),hP.zero k (by omega)];simp
  have h' := h.less (c:=e) hiW hr hne ⟨wl,ZcY (by omega)⟩ (fun k hk=>wz k (by omega)) fun k hk=>Zcv (by omega)
  rcases ih (i+1) _ p st (by omega) wz h' hst with ⟨k1,k2⟩|⟨p', ws,k1,k2,k3,k4⟩
  ·
   exact .inl ⟨(hs.trans hstep).trans k1,k2⟩
  ·
   exact .inr ⟨p', ws,(hs.trans hstep).trans k1,k2,k3,k4⟩
theorem put_ {m:Int} (m2:2≤m) (m12:m≤12) {W:Nat} (hW:W≤100000) {M:Vc→Prop} {p:List (List Int)} {r:List Int} (h:Pst m W p [r] M):∃p', Zx.f m p r=some (m,p')∧Pst m W p' [] M:=by
 rw[Zx.f_eq]
 have key:∀(D:Nat) (k:Nat) (p st:List (List Int)),st.length=k→dsum m p W≤D→(st.length:Int)+3*dsum m p W≤100000000→Pst m W p st M→∃p', Zx.l0 m p st=some (m,p')∧Pst m W p' [] M:=by
  intro D
  induction D with
  | zero =>
   intro k
   induction k with
   | zero =>
    intro p st hl _ _ h
    obtain rfl:=List.length_eq_zero_iff.1 hl
    refine⟨p,?_,h⟩
    rw[Zx.l0_eq]
    ((with_reducible repeat (first|refine Zj (by first|assumption|omega|rfl|exact B_pos (by omega)) ?_|refine Zi (by first|assumption|omega|decide|exact B_not (by omega)) ?_|refine Za (by first|assumption) ?_|dsimp only));first|done|(with_reducible rfl)|simp (disch:=omega) only[w64]|(show False;done))
   | succ k ih =>
    intro p st hl hD hK h
    obtain⟨st', v,rfl⟩:∃st' v,st=st' ++ [v]:=⟨st.dropLast,st.getLast (fun e=>by rw[e]at hl;simp at hl),(List.dropLast_concat_getLast _).symm⟩
    have e0:(st' ++ [v]).length=st'.length+1:=by simp
    obtain⟨s0,_⟩:=Zc9 (show 0 < m by omega) h.inv.tab W (Nat.le_refl _)
    rcases put_top m2 m12 hW W 0 v p st' (by omega) (fun i hi=>by omega) h (by omega)with ⟨k1,k2⟩|⟨p', ws,k1,k2,k3,k4⟩
    ·
     rw[k1]
     exact ih p st' (by omega) hD (by omega) k2
    ·
     obtain⟨s1,_⟩:=Zc9 (show 0 < m by omega) k3.inv.tab W (Nat.le_refl _)
     omega
  | succ D ihD =>
   intro k
   induction k with
   | zero =>
    intro p st hl _ _ h
    obtain rfl:=List.length_eq_zero_iff.1 hl
    refine⟨p,?_,h⟩
    rw[Zx.l0_eq]
    ((with_reducible repeat (first|refine Zj (by first|assumption|omega|rfl|exact B_pos (by omega)) ?_|refine Zi (by first|assumption|omega|decide|exact B_not (by omega)) ?_|refine Za (by first|assumption) ?_|dsimp only));first|done|(with_reducible rfl)|simp (disch:=omega) only[w64]|(show False;done))
   | succ k ih =>
    intro p st hl hD hK h
    obtain⟨st', v,rfl⟩:∃st' v,st=st' ++ [v]:=⟨st.dropLast,st.getLast (fun e=>by rw[e]at hl;simp at hl),(List.dropLast_concat_getLast _).symm⟩
    have e0:(st' ++ [v]).length=st'.length+1:=by simp
    obtain⟨s0,_⟩:=Zc9 (show 0 < m by omega) h.inv.tab W (Nat.le_refl _)
    rcases put_top m2 m12 hW W 0 v p st' (by omega) (fun i hi=>by omega) h (by omega)with ⟨k1,k2⟩|⟨p', ws,k1,k2,k3,k4⟩
    ·
     rw[k1]
     exact ih p st' (by omega) hD (by omega) k2
    ·
     rw[k1]
     have e1:(st' ++ ws).length=st'.length+3:=by rw[List.length_append,k2]
     exact ihD _ p' (st' ++ ws) rfl (by omega) (by omega) k3
 obtain⟨s0,s1⟩:=Zc9 (show 0 < m by omega) h.inv.tab W (Nat.le_refl _)
 have hb:m*(W:Int)≤12*100000:=Int.mul_le_mul (by omega) (by omega) (by omega) (by omega)
 exact key (dsum m p W).toNat 1 p [r] rfl (by omega) (by show(1:Int)+_≤_;omega) h
end Go.Proofs.YthmcpmnhdbeahaaGreat.V
namespace Go.Proofs.YthmcpmnhdbeahaaGreat.V
open Go.RowKit Go.Proofs.YthmcpmnhdbeahaaGreat.D Go.Proofs.YthmcpmnhdbeahaaGreat.P
theorem Zlj {m:Int} (m2:2≤m) (m12:m≤12) {W:Nat} (hW:W≤100000) {M:Vc→Prop}:∀(n j:Nat) (v:List Int) (p st:List (List Int)),j+n=W→Zb j v→Pst m W p (st++[v]) M→(st.length:Int)+dsum m p W≤1000000000 →
  ∃p' ws,ZA.l1 m v j p st=ZA.l0 m p' (st++ws)∧Pst m W p' (st++ws) M∧(p' = p∧ws=[]∨dsum m p' W < dsum m p W)∧(ws.length:Int)+dsum m p' W≤dsum m p W:=by
 intro n
 induction n with
 | zero =>
  intro j v p st hj hz h hst
  obtain⟨hvl,hva⟩:=h.inv.sts v (List.mem_append_right _ (List.mem_singleton.2 rfl))
  refine⟨p,[],?_,?_,.inl ⟨rfl,rfl⟩,by simp⟩
  ·
   rw[ZA.l1_eq,List.append_nil]
   ((with_reducible repeat (first|refine Zj (by first|assumption|omega|rfl|exact B_pos (by omega)) ?_|refine Zi (by first|assumption|omega|decide|exact B_not (by omega)) ?_|refine Za (by first|assumption) ?_|dsimp only));first|done|(with_reducible rfl)|simp (disch:=omega) only[w64]|(show False;done))
  ·
   rw[List.append_nil]
   obtain rfl:j=W:=by omega
   exact h.drop hz
 | succ n ih =>
  intro j v p st hj hz h hst
  obtain⟨hvl,hva⟩:=h.inv.sts v (List.mem_append_right _ (List.mem_singleton.2 rfl))
  have hpl:=h.inv.tab.len
  have hjW:j < W:=by omega
  obtain⟨v0,v1⟩:=hva j (by omega) (by omega)
  obtain⟨s0,s1⟩:=Zc9 (show 0 < m by omega) h.inv.tab W (Nat.le_refl _)
  by_cases hne:rd v (j:Int)=0
  ·
   obtain⟨p', ws,k1,k2,k3,k4⟩:=ih (j+1) v p st (by omega) (fun i hi=>by
    by_cases e:i=j
    ·
     rw[e];exact hne
    ·
     exact hz i (by omega)) h hst
   refine⟨p', ws,?_,k2,k3,k4⟩
   rw[←k1,ZA.l1_eq,wn (j:=j) (by omega)]
   ((with_reducible repeat (first|refine Zj (by first|assumption|omega|rfl|exact B_pos (by omega)) ?_|refine Zi (by first|assumption|omega|decide|exact B_not (by omega)) ?_|refine Za (by first|assumption) ?_|dsimp only));first|done|(with_reducible rfl)|simp (disch:=omega) only[w64]|(show False;done))
  have l1:∀a:List Int,([a]:List (List Int)).length=1:=fun _=>rfl
  by_cases hr:row p (j:Int)=[]
  ·
   have e' : ((row p (j:Int)).length:Int)=0:=by rw[hr];rfl
   obtain⟨u,hu,hug,hud,hU⟩:=Unit_ m2 m12 hva (by omega) (by omega) hne
   obtain⟨ui,hui⟩:=ZkI m2 m12 (by omega) hu.2 hug
   have dm:((Int.gcd (rd v (j:Int)) m:Nat):Int)∣m:=Int.gcd_dvd_right ..
   have dV:((Int.gcd (rd v (j:Int)) m:Nat):Int)∣rd v (j:Int):=Int.gcd_dvd_left ..
   have d0:0 < ((Int.gcd (rd v (j:Int)) m:Nat):Int):=by
    have:0 < Int.gcd (rd v (j:Int)) m:=Int.gcd_pos_of_ne_zero_left _ hne
    omega
   generalize ((Int.gcd (rd v (j:Int)) m:Nat):Int)=d at hud dm dV d0
   have dv1:d≤rd v (j:Int):=Int.le_of_dvd (by omega) dV
   obtain⟨md,hmd⟩:=dm
   obtain⟨md0,md1⟩:=Zdf d0 hmd (by omega) m12
   have hmde:m / d=md:=by rw[hmd];exact Int.mul_ediv_cancel_left _ (by omega)
   obtain⟨nx,hnx⟩:∃nx,nx=mix m u v 0 v:=⟨_,rfl⟩
   have nl:nx.length=W:=by rw[hnx,ZbB,hvl]
   have na:AllIn m nx:=by rw[hnx];exact ZcY (by omega)
   have nz:Zb j nx:=fun k hk=>by
    rw[hnx,Zcr (by omega),hz k hk];simp
   have nd:rd nx (j:Int)=d:=by
    rw[hnx,Zcr (by omega)]
    have:(u*rd v (j:Int)+0*rd v (j:Int))%m=d%m:=by
     obtain⟨q,hq⟩:=hud
     rw[show u*rd v (j:Int)+0*rd v (j:Int)=d+m*q by omega,Int.add_mul_emod_self_left]
    rw[this,Int.emod_eq_of_lt (by omega) (by omega)]
   have nP:PRow m W j nx:=⟨nl,na,nz,by omega,by omega,by rw[nd];exact⟨md,hmd⟩⟩
   rw[←hnx]at hU
   have hsame:row (p.set j nx) (j:Int)=nx:=Zct (by omega)
   have hT:T (p.set j nx) (j:Int) (j:Int)=d:=by show rd (row (p.set j nx) (j:Int)) (j:Int)=d;rw[hsame];exact nd
   have hset:(p.set j nx).length=W:=by rw[List.length_set];exact hpl
   have f3:wrapI (Int.tdiv m d)=md:=by rw[hmd,Int.mul_tdiv_cancel_left _ (by omega)];exact w64 (by omega) (by omega)
   have c4:=Mix_ m2 m12 (x:=md) (y:=0) na hva (by omega) (by omega) (by omega) (by omega) (by omega) (by omega)
   have g0:∀k:Nat,k < W→m∣u*rd v (k:Int)+0*rd v (k:Int) - rd nx (k:Int):=fun k hk=>by rw[hnx];exact Zcv (by omega)
   have g2:∀k:Nat,k < W→m∣md*rd nx (k:Int)+0*rd v (k:Int) - rd (mix m md nx 0 v) (k:Int):=fun k hk=>Zcv (by omega)
   have wz:Zb (j+1) (mix m md nx 0 v):=fun k hk=>by
    rw[Zcr (by omega)]
    by_cases e:k=j
    ·
     subst e
     rw[nd,show md*d+0*rd v (k:Int)=m by rw[hmd,Int.mul_comm md d];omega]
     exact Int.emod_self
    ·
     rw[nz k (by omega)];simp
   have hdm:dsum m (p.set j nx) W+1≤dsum m p W:=by
    rw[Zgh hpl hjW,if_pos hjW,Zd1 hpl hjW nP.ne,nd]
    unfold dv
    rw[if_pos hr];omega
   refine⟨p.set j nx,[mix m md nx 0 v],?_,?_,.inr (by omega),by rw[l1];omega⟩
   ·
    rw[ZA.l1_eq,Int.toNat_natCast]
    (with_reducible repeat (first|refine Zj (by first|assumption|omega|rfl|exact B_pos (by omega)) ?_|refine Zi (by first|assumption|omega|decide|exact B_not (by omega)) ?_|refine Za (by first|assumption) ?_|dsimp only))
    rw[hT]
    (with_reducible repeat (first|refine Zj (by first|assumption|omega|rfl|exact B_pos (by omega)) ?_|refine Zi (by first|assumption|omega|decide|exact B_not (by omega)) ?_|refine Za (by first|assumption) ?_|dsimp only))
    rw[hsame,f3]
    (with_reducible repeat (first|refine Zj (by first|assumption|omega|rfl|exact B_pos (by omega)) ?_|refine Zi (by first|assumption|omega|decide|exact B_not (by omega)) ?_|refine Za (by first|assumption) ?_|dsimp only))
    rw[l1]
    ((with_reducible repeat (first|refine Zj (by first|assumption|omega|rfl|exact B_pos (by omega)) ?_|refine Zi (by first|assumption|omega|decide|exact B_not (by omega)) ?_|refine Za (by first|assumption) ?_|dsimp only));first|done|(with_reducible rfl)|simp (disch:=omega) only[w64]|(show False;done))
   ·
    refine h.swap hjW hne nP (fun w hw => ?_) (fun q=>absurd hr q) ?_ ?_ ?_
    ·
     rw[List.mem_singleton]at hw
     subst hw
     exact⟨⟨by rw[ZbB];exact nl,ZcY (by omega)⟩,wz⟩
    ·
     refine Sp.two (a:=ui) (b:=0) (x:=V nx) (y:=V nx) (.gen (.inl rfl)) (.gen (.inl rfl)) fun k hk => ?_
     obtain⟨q,hq⟩:=g0 k hk
     obtain⟨t,ht⟩:=hui
     refine⟨t*rd v (k:Int) - ui*q,?_⟩
     show ui*rd nx (k:Int)+0*rd nx (k:Int) - rd v (k:Int)=_
     have e1:rd nx (k:Int)=u*rd v (k:Int) - m*q:=by omega
     have e2:ui*(u*rd v (k:Int))=m*(t*rd v (k:Int))+rd v (k:Int):=by
      rw[←Int.mul_assoc,Int.mul_comm ui u,show u*ui=m*t+1 by omega,Int.add_mul,Int.mul_assoc];omega
     have e3:ui*(m*q)=m*(ui*q):=by rw[←Int.mul_assoc,Int.mul_comm ui m,Int.mul_assoc]
     rw[e1,Int.zero_mul,Int.mul_sub,Int.mul_sub,e2,e3]
     omega
    ·
     refine .alike (.gen ⟨_,List.mem_singleton.2 rfl,rfl⟩) fun k hk => ?_
     obtain⟨q,hq⟩:=g2 k hk
     refine⟨-q,?_⟩
     rw[nd,hmde,Int.mul_neg,←hq]
     show rd (mix m md nx 0 v) (k:Int) - md*rd nx (k:Int)=_
     omega
    ·
     have hn2:Sp m W (fun g=>g=V v∨(row p (j:Int)≠[]∧g=V (row p (j:Int)))) (V nx):=Sp.two (a:=u) (b:=0) (x:=V v) (y:=V v) (.gen (.inl rfl)) (.gen (.inl rfl)) fun k hk=>g0 k hk
     intro g hg
     rcases hg with rfl|⟨w,hw,rfl⟩
     ·
      exact hn2
     rw[List.mem_singleton]at hw
     subst hw
     exact Sp.two (a:=md) (b:=0) (x:=V nx) (y:=V v) hn2 (.gen (.inl rfl)) fun k hk=>g2 k hk
  have e' : ¬ ((row p (j:Int)).length:Int)=0:=by have:=List.length_pos_iff.2 hr;omega
  have hP:=h.inv.tab.prow hjW hr
  have pl:=hP.len
  have p0:=hP.pos
  have p1:=hP.lt
  have hT:T p (j:Int) (j:Int)=rd (row p (j:Int)) (j:Int):=rfl
  have hpne:¬ rd (row p (j:Int)) (j:Int)=0:=by omega
  by_cases hd:Int.tmod (rd v (j:Int)) (rd (row p (j:Int)) (j:Int))=0
  ·
   obtain⟨e,he⟩:=Zc3.1 hd
   obtain⟨ee0,ee1⟩:=Zdf p0 he v0 (by omega)
   have c1:=Mix_ m2 m12 (x:=1) (y := -e) hva hP.ent (by omega) (by omega) (by omega) (by omega) (by omega) (by omega)
   have f1:wrapI (0 - wrapI ((rd v (j:Int)).tdiv (rd (row p (j:Int)) (j:Int)))) = -e:=by
    rw[he,Int.mul_tdiv_cancel_left _ (by omega),w64 (x:=e) (by omega) (by omega),w64 (by omega) (by omega)];omega
   have wl:(mix m 1 v (-e) (row p (j:Int))).length=W:=by rw[ZbB];exact hvl
   have wz:Zb (j+1) (mix m 1 v (-e) (row p (j:Int))):=fun k hk=>by
    rw[Zcr (by omega)]
    by_cases q:k=j
    ·
     subst q
     rw[he,show 1*(rd (row p (k:Int)) (k:Int)*e) + -e*rd (row p (k:Int)) (k:Int)=0 by rw[Int.neg_mul,Int.mul_comm e];omega]
     exact Int.zero_emod m
    ·
     rw[hz k (by omega),hP.zero k (by omega)];simp
   have h' := h.less (c:=e) hjW hr hne ⟨wl,ZcY (by omega)⟩ (fun k hk=>wz k (by omega)) fun k hk=>Zcv (by omega)
   obtain⟨p', ws,k1,k2,k3,k4⟩:=ih (j+1) _ p st (by omega) wz h' hst
   refine⟨p', ws,?_,k2,k3,k4⟩
   rw[←k1,ZA.l1_eq,wn (j:=j) (by omega),hT,f1]
   ((with_reducible repeat (first|refine Zj (by first|assumption|omega|rfl|exact B_pos (by omega)) ?_|refine Zi (by first|assumption|omega|decide|exact B_not (by omega)) ?_|refine Za (by first|assumption) ?_|dsimp only));first|done|(with_reducible rfl)|simp (disch:=omega) only[w64]|(show False;done))
  obtain⟨o,ho⟩:∃o,o=row p (j:Int):=⟨_,rfl⟩
  obtain⟨s,t,hbz,hst', hs,ht⟩:=ZkY (a:=rd o (j:Int)) (b:=rd v (j:Int)) (by rw[ho];omega) (by rw[ho];omega) v0 (by omega)
  have dO:((Int.gcd (rd o (j:Int)) (rd v (j:Int)):Nat):Int)∣rd o (j:Int):=Int.gcd_dvd_left ..
  have dV:((Int.gcd (rd o (j:Int)) (rd v (j:Int)):Nat):Int)∣rd v (j:Int):=Int.gcd_dvd_right ..
  have d0:0 < ((Int.gcd (rd o (j:Int)) (rd v (j:Int)):Nat):Int):=by
   have:0 < Int.gcd (rd o (j:Int)) (rd v (j:Int)):=Int.gcd_pos_of_ne_zero_right _ hne
   omega
  generalize ((Int.gcd (rd o (j:Int)) (rd v (j:Int)):Nat):Int)=d at hbz hst' dO dV d0
  rw[←ho]at hP pl p0 p1 hT hpne hd
  have dv1:d≤rd v (j:Int):=Int.le_of_dvd (by omega) dV
  have dm:d∣m:=Int.dvd_trans dO hP.dvd
  obtain⟨eo,heo⟩:=dO
  obtain⟨ev,hev⟩:=dV
  obtain⟨eo0,eo1⟩:=Zdf d0 heo (by omega) (by omega)
  obtain⟨ev0,ev1⟩:=Zdf d0 hev v0 (by omega)
  obtain⟨md,hmd⟩:=dm
  obtain⟨md0,md1⟩:=Zdf d0 hmd (by omega) m12
  have hmde:m / d=md:=by rw[hmd];exact Int.mul_ediv_cancel_left _ (by omega)
  have hunit:s*eo+t*ev=1:=by
   have h1:d*(s*eo+t*ev)=d*1:=by
    rw[Int.mul_add,Int.mul_one,←Int.mul_assoc,←Int.mul_assoc,Int.mul_comm d s,Int.mul_comm d t,Int.mul_assoc,Int.mul_assoc,←heo,←hev];exact hst'
   exact Int.eq_of_mul_eq_mul_left (by omega) h1
  obtain⟨nx,hnx⟩:∃nx,nx=mix m s o t v:=⟨_,rfl⟩
  obtain⟨ny,hny⟩:∃ny,ny=mix m ev o (-eo) v:=⟨_,rfl⟩
  have oz:Zb j o:=hP.zero
  have c1:=Mix_ m2 m12 (x:=ev) (y := -eo) hP.ent hva (by omega) (by omega) (by omega) (by omega) (by omega) (by omega)
  have c2:=Mix_ m2 m12 (x:=s) (y:=t) hP.ent hva (by omega) (by omega) hs.1 hs.2 ht.1 ht.2
  rw[←hny]at c1
  rw[←hnx]at c2
  have nl:nx.length=W:=by rw[hnx,ZbB,pl]
  have yl:ny.length=W:=by rw[hny,ZbB,pl]
  have na:AllIn m nx:=by rw[hnx];exact ZcY (by omega)
  have ya:AllIn m ny:=by rw[hny];exact ZcY (by omega)
  have nz:Zb j nx:=fun k hk=>by
   rw[hnx,Zcr (by omega),oz k hk,hz k hk];simp
  have nd:rd nx (j:Int)=d:=by
   rw[hnx,Zcr (by omega),hst', Int.emod_eq_of_lt (by omega) (by omega)]
  have yz:Zb (j+1) ny:=fun k hk=>by
   rw[hny,Zcr (by omega)]
   by_cases q:k=j
   ·
    subst q
    rw[heo,hev,show ev*(d*eo) + -eo*(d*ev)=0 by rw[Int.neg_mul,←Int.mul_assoc,←Int.mul_assoc,Int.mul_comm ev d,Int.mul_comm eo d,Int.mul_assoc,Int.mul_assoc,Int.mul_comm ev eo];omega]
    exact Int.zero_emod m
   ·
    rw[hz k (by omega),oz k (by omega)];simp
  have nP:PRow m W j nx:=⟨nl,na,nz,by omega,by omega,by rw[nd];exact⟨md,hmd⟩⟩
  have hsame:row (p.set j nx) (j:Int)=nx:=Zct (by omega)
  have hset:(p.set j nx).length=W:=by rw[List.length_set];exact hpl
  have c4:=Mix_ m2 m12 (x:=md) (y:=0) na hva (by omega) (by omega) (by omega) (by omega) (by omega) (by omega)
  have f1:wrapI ((rd v (j:Int)).tdiv d)=ev:=by rw[hev,Int.mul_tdiv_cancel_left _ (by omega)];exact w64 (by omega) (by omega)
  have f2:wrapI (0 - wrapI ((rd o (j:Int)).tdiv d)) = -eo:=by rw[heo,Int.mul_tdiv_cancel_left _ (by omega),w64 (x:=eo) (by omega) (by omega),w64 (by omega) (by omega)];omega
  have f3:wrapI (Int.tdiv m d)=md:=by rw[hmd,Int.mul_tdiv_cancel_left _ (by omega)];exact w64 (by omega) (by omega)
  obtain⟨nw,hnw⟩:∃nw,nw=mix m md nx 0 v:=⟨_,rfl⟩
  have wl:nw.length=W:=by rw[hnw,ZbB,nl]
  have wa:AllIn m nw:=by rw[hnw];exact ZcY (by omega)
  have wz:Zb (j+1) nw:=fun k hk=>by
   rw[hnw,Zcr (by omega)]
   by_cases e:k=j
   ·
    subst e
    rw[nd,show md*d+0*rd v (k:Int)=m by rw[hmd,Int.mul_comm md d];omega]
    exact Int.emod_self
   ·
    rw[nz k (by omega)];simp
  rw[←hnw]at c4
  have g0:∀k:Nat,k < W→m∣s*rd o (k:Int)+t*rd v (k:Int) - rd nx (k:Int):=fun k hk=>by rw[hnx];exact Zcv (by omega)
  have g1:∀k:Nat,k < W→m∣ev*rd o (k:Int)+(-eo)*rd v (k:Int) - rd ny (k:Int):=fun k hk=>by rw[hny];exact Zcv (by omega)
  have g2:∀k:Nat,k < W→m∣md*rd nx (k:Int)+0*rd v (k:Int) - rd nw (k:Int):=fun k hk=>by rw[hnw];exact Zcv (by omega)
  have hdm:dsum m (p.set j nx) W+1≤dsum m p W:=by
   rw[Zgh hpl hjW,if_pos hjW,Zd1 hpl hjW nP.ne,nd]
   unfold dv
   rw[if_neg hr,←ho]
   have:d≤rd o (j:Int):=Int.le_of_dvd p0 ⟨eo,heo⟩
   by_cases q:d=rd o (j:Int)
   ·
    exact absurd (Zc3.2 ⟨ev,by rw[←q];exact hev⟩) hd
   ·
    omega
  have hsw:Pst m W (p.set j nx) (st++[nw,ny]) M:=by
   refine h.swap hjW hne nP (fun w hw => ?_) (fun q => ?_) ?_ ?_ ?_
   ·
    simp only[List.mem_cons,List.not_mem_nil,or_false]at hw
    rcases hw with rfl|rfl
    ·
     exact⟨⟨wl,wa⟩,wz⟩
    ·
     exact⟨⟨yl,ya⟩,yz⟩
   ·
    rw[←ho]
    refine Sp.two (a:=eo) (b:=t) (x:=V nx) (y:=V ny) (.gen (.inl rfl)) (.gen (.inr ⟨_,List.mem_cons_of_mem _ (List.mem_cons_self ..),rfl⟩)) fun k hk => ?_
    obtain⟨q0,h0⟩:=g0 k hk
    obtain⟨q1,h1⟩:=g1 k hk
    refine⟨-(eo*q0) - t*q1,?_⟩
    show eo*rd nx (k:Int)+t*rd ny (k:Int) - rd o (k:Int)=_
    have e0:rd nx (k:Int)=s*rd o (k:Int)+t*rd v (k:Int) - m*q0:=by omega
    have e1:rd ny (k:Int)=ev*rd o (k:Int)+(-eo)*rd v (k:Int) - m*q1:=by omega
    rw[e0,e1]
    have e2:rd o (k:Int)=(s*eo+t*ev)*rd o (k:Int):=by rw[hunit];omega
    generalize rd o (k:Int)=A at e2 ⊢
    generalize rd v (k:Int)=C
    have e3:eo*(s*A+t*C - m*q0)+t*(ev*A + -eo*C - m*q1) - A=(s*eo+t*ev)*A - A+m*(-(eo*q0) - t*q1):=by
     simp only[Int.mul_sub,Int.mul_add,Int.add_mul,Int.neg_mul,Int.mul_neg,←Int.mul_assoc]
     rw[Int.mul_comm eo s,Int.mul_comm eo t,Int.mul_comm eo m,Int.mul_comm t m]
     omega
    rw[e3,←e2];omega
   ·
    refine Sp.two (a:=ev) (b := -s) (x:=V nx) (y:=V ny) (.gen (.inl rfl)) (.gen (.inr ⟨_,List.mem_cons_of_mem _ (List.mem_cons_self ..),rfl⟩)) fun k hk => ?_
    obtain⟨q0,h0⟩:=g0 k hk
    obtain⟨q1,h1⟩:=g1 k hk
    refine⟨-(ev*q0)+s*q1,?_⟩
    show ev*rd nx (k:Int) + -s*rd ny (k:Int) - rd v (k:Int)=_
    have e0:rd nx (k:Int)=s*rd o (k:Int)+t*rd v (k:Int) - m*q0:=by omega
    have e1:rd ny (k:Int)=ev*rd o (k:Int)+(-eo)*rd v (k:Int) - m*q1:=by omega
    rw[e0,e1]
    have e2:rd v (k:Int)=(s*eo+t*ev)*rd v (k:Int):=by rw[hunit];omega
    generalize rd v (k:Int)=C at e2 ⊢
    generalize rd o (k:Int)=A
    have e3:ev*(s*A+t*C - m*q0) + -s*(ev*A + -eo*C - m*q1) - C=(s*eo+t*ev)*C - C+m*(-(ev*q0)+s*q1):=by
     simp only[Int.mul_sub,Int.mul_add,Int.add_mul,Int.neg_mul,Int.mul_neg,←Int.mul_assoc]
     rw[Int.mul_comm ev s,Int.mul_comm ev t,Int.mul_comm ev m,Int.mul_comm s m]
     omega
    rw[e3,←e2];omega
   ·
    refine .alike (.gen ⟨_,List.mem_cons_self ..,rfl⟩) fun k hk => ?_
    obtain⟨q,hq⟩:=g2 k hk
    refine⟨-q,?_⟩
    rw[nd,hmde,Int.mul_neg,←hq]
    show rd nw (k:Int) - md*rd nx (k:Int)=_
    omega
   ·
    rw[←ho]
    have hO:Sp m W (fun g=>g=V v∨(o≠[]∧g=V o)) (V o) := .gen (.inr ⟨hP.ne,rfl⟩)
    have hn2:Sp m W (fun g=>g=V v∨(o≠[]∧g=V o)) (V nx):=Sp.two (a:=s) (b:=t) (x:=V o) (y:=V v) hO (.gen (.inl rfl)) fun k hk=>g0 k hk
    intro g hg
    rcases hg with rfl|⟨w,hw,rfl⟩
    ·
     exact hn2
    simp only[List.mem_cons,List.not_mem_nil,or_false]at hw
    rcases hw with rfl|rfl
    ·
     exact Sp.two (a:=md) (b:=0) (x:=V nx) (y:=V v) hn2 (.gen (.inl rfl)) fun k hk=>g2 k hk
    ·
     exact Sp.two (a:=ev) (b := -eo) (x:=V o) (y:=V v) hO (.gen (.inl rfl)) fun k hk=>g1 k hk
  rw[show st++[nw,ny]=(st++[nw])++[ny]by simp]at hsw
  have sl:(st++[nw]).length=st.length+1:=by simp
  obtain⟨p', ws,k1,k2,k3,k4⟩:=ih (j+1) ny (p.set j nx) (st++[nw]) (by omega) yz hsw (by omega)
  refine⟨p', nw :: ws,?_,by rw[show st++nw :: ws=(st++[nw])++ws by simp];exact k2,.inr ?_,by rw[List.length_cons];omega⟩
  ·
   rw[show st++nw :: ws=(st++[nw])++ws by simp,←k1,ZA.l1_eq,wn (j:=j) (by omega),hT,Int.toNat_natCast]
   rw[←ho]at e' ⊢
   (with_reducible repeat (first|refine Zj (by first|assumption|omega|rfl|exact B_pos (by omega)) ?_|refine Zi (by first|assumption|omega|decide|exact B_not (by omega)) ?_|refine Za (by first|assumption) ?_|dsimp only))
   rw[f1,f2]
   (with_reducible repeat (first|refine Zj (by first|assumption|omega|rfl|exact B_pos (by omega)) ?_|refine Zi (by first|assumption|omega|decide|exact B_not (by omega)) ?_|refine Za (by first|assumption) ?_|dsimp only))
   rw[hsame,f3]
   (with_reducible repeat (first|refine Zj (by first|assumption|omega|rfl|exact B_pos (by omega)) ?_|refine Zi (by first|assumption|omega|decide|exact B_not (by omega)) ?_|refine Za (by first|assumption) ?_|dsimp only))
   rw[l1]
   ((with_reducible repeat (first|refine Zj (by first|assumption|omega|rfl|exact B_pos (by omega)) ?_|refine Zi (by first|assumption|omega|decide|exact B_not (by omega)) ?_|refine Za (by first|assumption) ?_|dsimp only));first|done|(with_reducible rfl)|simp (disch:=omega) only[w64]|(show False;done))
  ·
   omega
theorem Zk3 {m:Int} (m2:2≤m) (m12:m≤12) {W:Nat} (hW:W≤100000) {M:Vc→Prop} {p:List (List Int)} {r:List Int} (h:Pst m W p [r] M):∃p', ZA.f p r m=some p' ∧ Pst m W p' [] M:=by
 rw[ZA.f_eq]
 have key:∀(D:Nat) (k:Nat) (p st:List (List Int)),st.length=k→dsum m p W≤D→(st.length:Int)+dsum m p W≤100000000→Pst m W p st M→∃p', ZA.l0 m p st=some p' ∧ Pst m W p' [] M:=by
  intro D
  induction D using Nat.strongRecOn with
  | _ D ihD =>
   intro k
   induction k with
   | zero =>
    intro p st hl _ _ h
    obtain rfl:=List.length_eq_zero_iff.1 hl
    refine⟨p,?_,h⟩
    rw[ZA.l0_eq]
    ((with_reducible repeat (first|refine Zj (by first|assumption|omega|rfl|exact B_pos (by omega)) ?_|refine Zi (by first|assumption|omega|decide|exact B_not (by omega)) ?_|refine Za (by first|assumption) ?_|dsimp only));first|done|(with_reducible rfl)|simp (disch:=omega) only[w64]|(show False;done))
   | succ k ih =>
    intro p st hl hD hK h
    obtain⟨st', v,rfl⟩:∃st' v,st=st' ++ [v]:=⟨st.dropLast,st.getLast (fun e=>by rw[e]at hl;simp at hl),(List.dropLast_concat_getLast _).symm⟩
    have e0:(st' ++ [v]).length=st'.length+1:=by simp
    have e1:wrapI (((st' ++ [v]).length:Int) - 1)=(st'.length:Int):=by
     obtain⟨s0,_⟩:=Zc9 (show 0 < m by omega) h.inv.tab W (Nat.le_refl _)
     rw[w64 (by omega) (by omega)];omega
    obtain⟨s0,_⟩:=Zc9 (show 0 < m by omega) h.inv.tab W (Nat.le_refl _)
    have st1:ZA.l0 m p (st' ++ [v])=ZA.l1 m v 0 p st' := by
     rw[ZA.l0_eq,e1,Ze2,Int.toNat_natCast,Zeq]
     ((with_reducible repeat (first|refine Zj (by first|assumption|omega|rfl|exact B_pos (by omega)) ?_|refine Zi (by first|assumption|omega|decide|exact B_not (by omega)) ?_|refine Za (by first|assumption) ?_|dsimp only));first|done|(with_reducible rfl)|simp (disch:=omega) only[w64]|(show False;done))
    obtain⟨p', ws,k1,k2,k3,k4⟩:=Zlj m2 m12 hW W 0 v p st' (by omega) (fun i hi=>by omega) h (by omega)
    rw[st1,show(0:Int)=((0:Nat):Int)from rfl,k1]
    rcases k3 with ⟨rfl,rfl⟩|k3
    ·
     rw[List.append_nil]at k2 ⊢
     exact ih p' st' (by omega) hD (by omega) k2
    ·
     obtain⟨s1,_⟩:=Zc9 (show 0 < m by omega) k2.inv.tab W (Nat.le_refl _)
     have e2:(st' ++ ws).length=st'.length+ws.length:=List.length_append
     exact ihD (dsum m p' W).toNat (by omega) _ p' (st' ++ ws) rfl (by omega) (by omega) k2
 obtain⟨s0,s1⟩:=Zc9 (show 0 < m by omega) h.inv.tab W (Nat.le_refl _)
 have hb:m*(W:Int)≤12*100000:=Int.mul_le_mul (by omega) (by omega) (by omega) (by omega)
 exact key (dsum m p W).toNat 1 p [r] rfl (by omega) (by show(1:Int)+_≤_;omega) h
end Go.Proofs.YthmcpmnhdbeahaaGreat.V
namespace Go.Proofs.YthmcpmnhdbeahaaGreat.V
open Go.RowKit Go.Proofs.YthmcpmnhdbeahaaGreat.D Go.Proofs.YthmcpmnhdbeahaaGreat.P
section
variable {m:Int} {W:Nat} {p:List (List Int)} {M:Vc→Prop} {G G' : Vc→Prop}
theorem Pst.lead (m0:0 < m) (h:Pst m W p [] M):Lead m W p M:=by
 have e:∀k g,GT W p [] k g→Sp m W (Rws W p k) g:=fun k g hg=>by
  rcases hg with hg|⟨s,hs,_⟩
  ·
   exact .gen hg
  ·
   cases hs
 exact Zln m0 h.inv.tab (fun j hj hr=>(h.inv.how j hj hr).mono (e _)) fun x=>by
  rw[←h.spn x]
  exact⟨fun hx=>hx.mono fun g hg => .gen (.inl hg),fun hx=>hx.mono (e 0)⟩
theorem Pst.add {r:List Int} (h:Pst m W p [] (Sp m W G)) (hr:r.length=W∧AllIn m r) (hG:∀g,G' g↔G g∨g=V r):Pst m W p [r] (Sp m W G') where
 inv:=⟨h.inv.tab,fun s hs=>by rw[List.mem_singleton]at hs;subst hs;exact hr,fun j hj hn=>(h.inv.how j hj hn).mono fun g hg=>by
  rcases hg with hg|⟨s,hs,_⟩
  ·
   exact .gen (.inl hg)
  ·
   cases hs⟩
 spn := fun x=>by
  constructor
  ·
   intro hx
   refine hx.mono fun g hg => ?_
   rcases hg with hg|⟨s,hs,_,rfl⟩
   ·
    exact((h.spn g).1 (.gen (.inl hg))).mono fun g hg => .gen ((hG g).2 (.inl hg))
   ·
    rw[List.mem_singleton]at hs
    subst hs
    exact .gen ((hG _).2 (.inr rfl))
  ·
   intro hx
   refine hx.mono fun g hg => ?_
   rcases(hG g).1 hg with hg|rfl
   ·
    refine((h.spn g).2 (.gen hg)).mono fun g hg => ?_
    rcases hg with hg|⟨s,hs,_⟩
    ·
     exact .gen (.inl hg)
    ·
     cases hs
   ·
    exact .gen (.inr ⟨r,List.mem_singleton.2 rfl,fun i hi=>by omega,rfl⟩)
theorem Zgz (n:Nat) (i:Int):row (List.replicate n ([]:List Int)) i=[]:=by
 simp only[row,List.getD_eq_getElem?_getD,List.getElem?_replicate]
 split <;> rfl
theorem Pst.none (hG:∀g,¬ G g):Pst m W (List.replicate W []) [] (Sp m W G) where
 inv:=⟨⟨List.length_replicate,fun j _ => .inl (Zgz _ _)⟩,fun s hs=>(by cases hs),fun j _ hn=>absurd (Zgz _ _) hn⟩
 spn:=fun x=>by
  constructor
  ·
   intro hx
   refine hx.mono fun g hg => ?_
   rcases hg with ⟨j,_,_,hn,_⟩|⟨s,hs,_⟩
   ·
    exact absurd (Zgz _ _) hn
   ·
    cases hs
  ·
   intro hx
   exact hx.mono fun g hg=>absurd hg (hG g)
def Gn (f:Nat→List Int) (k:Nat):Vc→Prop:=fun g=>∃i:Nat,i < k∧g=V (f i)
theorem Zho {f:Nat→List Int} {k:Nat} (g:Vc):Gn f (k+1) g↔Gn f k g∨g=V (f k):=by
 constructor
 ·
  rintro⟨i,hi,rfl⟩
  by_cases e:i=k
  ·
   exact .inr (by rw[e])
  ·
   exact .inl ⟨i,by omega,rfl⟩
 ·
  rintro(⟨i,hi,rfl⟩|rfl)
  ·
   exact⟨i,by omega,rfl⟩
  ·
   exact⟨k,by omega,rfl⟩
theorem Zke (m2:2≤m) (m12:m≤12) (hW:W≤100000) {X:List (List Int)} (hX:X.length≤1000000) (hr:∀i:Nat,i < X.length→(row X (i:Int)).length=W∧AllIn m (row X (i:Int))) :
  ∃p,ZY.f X (W:Int) m=some p∧Pst m W p [] (Sp m W (Gn (fun i=>row X (i:Int)) X.length)):=by
 rw[ZY.f_eq,Int.toNat_natCast]
 have key:∀k,k≤X.length→∃p,ZY.l0 X m 0 (List.replicate W [])=ZY.l0 X m (k:Int) p∧Pst m W p [] (Sp m W (Gn (fun i=>row X (i:Int)) k)):=by
  intro k
  induction k with
  | zero=>exact fun _=>⟨_,rfl,Pst.none fun g ⟨i,hi,_⟩=>by omega⟩
  | succ k ih =>
   intro hk
   obtain⟨p,h1,h2⟩:=ih (by omega)
   obtain⟨p', h3,h4⟩:=Zk3 m2 m12 hW (h2.add (hr k (by omega)) Zho)
   refine⟨p', ?_,h4⟩
   rw[h1,ZY.l0_eq,wn (j:=k) (by omega)]
   ((with_reducible repeat (first|refine Zj (by first|assumption|omega|rfl|exact B_pos (by omega)) ?_|refine Zi (by first|assumption|omega|decide|exact B_not (by omega)) ?_|refine Za (by first|assumption) ?_|dsimp only));first|done|(with_reducible rfl)|simp (disch:=omega) only[w64]|(show False;done))
 obtain⟨p,h1,h2⟩:=key X.length (Nat.le_refl _)
 refine⟨p,?_,h2⟩
 (with_reducible repeat (first|refine Zj (by first|assumption|omega|rfl|exact B_pos (by omega)) ?_|refine Zi (by first|assumption|omega|decide|exact B_not (by omega)) ?_|refine Za (by first|assumption) ?_|dsimp only))
 rw[h1,ZY.l0_eq]
 ((with_reducible repeat (first|refine Zj (by first|assumption|omega|rfl|exact B_pos (by omega)) ?_|refine Zi (by first|assumption|omega|decide|exact B_not (by omega)) ?_|refine Za (by first|assumption) ?_|dsimp only));first|done|(with_reducible rfl)|simp (disch:=omega) only[w64]|(show False;done))
theorem Zdh {r:List Int} {A i:Nat} (h:i < A):rd (r.take A) (i:Int)=rd r (i:Int):=by
 simp[rd,List.getD_eq_getElem?_getD,List.getElem?_take,h]
theorem ZfC {r:List Int} {A i:Nat}:rd (r.drop A) (i:Int)=rd r ((A+i:Nat):Int):=by
 simp only[rd,Int.toNat_natCast,List.getD_eq_getElem?_getD,List.getElem?_drop]
theorem Lead.first {A B:Nat} {q:List (List Int)} (h:Lead m (A+B) p M) (m0:0 < m) (hl:q.length=A) (hr:∀j:Nat,j < A→row q (j:Int)=(row p (j:Int)).take A) :
    Lead m A q (fun x=>∃y,M y∧∀i,i < A→m∣y i - x i):=by
  have hP:∀j:Nat,j < A→row p (j:Int)≠[]→PRow m A j (row q (j:Int)):=fun j hj hn=>by
    have k:=h.tab.prow (show j < A+B by omega) hn
    rw[hr j hj]
    refine⟨by rw[List.length_take,k.len];omega,k.ent.take _,fun i hi=>by rw[Zdh (by omega)];exact k.zero i hi,?_,?_,?_⟩ <;> rw[Zdh hj]
    · exact k.pos
    · exact k.lt
    · exact k.dvd
  have hE:∀j:Nat,j < A→(row q (j:Int)=[]↔row p (j:Int)=[]):=fun j hj=>by
    constructor
    · intro e
      by_cases hn:row p (j:Int)=[]
      · exact hn
      · exact absurd e (hP j hj hn).ne
    · intro e;rw[hr j hj,e];simp
  have hdv:∀j:Nat,j < A→dv m q j=dv m p j:=fun j hj=>by
    unfold dv
    by_cases hn:row p (j:Int)=[]
    · rw[if_pos hn,if_pos ((hE j hj).2 hn)]
    · rw[if_neg hn,if_neg fun e=>hn ((hE j hj).1 e),hr j hj,Zdh hj]
  exact {
    tab:=⟨hl,fun j hj=>by
      by_cases hn:row p (j:Int)=[]
      · exact .inl ((hE j hj).2 hn)
      · exact .inr (hP j hj hn)⟩
    sub := ⟨⟨_,h.sub.zero,fun i _=>Zbz rfl⟩,fun x y ⟨x', hx,ex⟩ ⟨y', hy,ey⟩ c=>⟨_,h.sub.lin _ _ hx hy c,fun i hi=>by
      have:=Int.dvd_add (ex i hi) (Int.dvd_mul_of_dvd_right (b:=c) (ey i hi))
      rw[Int.mul_sub]at this
      rwa[show ∀a b c d:Int,a+c - (b+d)=a - b+(c - d)from fun a b c d=>by omega]⟩,
      fun x y ⟨x', hx,ex⟩ e=>⟨x', hx,fun i hi=>by
        have:=Int.dvd_add (ex i hi) (e i hi)
        rwa[show ∀a b c:Int,a - b+(b - c)=a - c from fun a b c=>by omega]at this⟩⟩
    own:=fun j hj hn=>⟨V (row p (j:Int)),h.own j (by omega) fun e=>hn ((hE j hj).2 e),fun i hi=>by
      refine Zbz ?_
      show rd (row p (j:Int)) (i:Int)=rd (row q (j:Int)) (i:Int)
      rw[hr j hj,Zdh hi]⟩
    lead:=fun x ⟨y,hy,e⟩ j hj hz=>by
      have:=h.lead y hy j (by omega) fun i hi=>by
        have:=Int.dvd_add (e i (by omega)) (hz i hi)
        rwa[show ∀a b:Int,a - b+b=a from fun a b=>by omega]at this
      rw[hdv j hj]
      have hd:=(dv_bd m0 h.tab (show j < A+B by omega)).2.2
      have:=Int.dvd_sub this (Int.dvd_trans hd (e j hj))
      rwa[show ∀a b:Int,a - (a - b)=b from fun a b=>by omega]at this }
def pad (A:Nat) (x:Vc):Vc:=fun i=>if i < A then 0 else x (i - A)
theorem Lead.last {A B:Nat} {q:List (List Int)} (h:Lead m (A+B) p M) (m0:0 < m) (hl:q.length=B) (hr:∀j:Nat,j < B→row q (j:Int)=(row p ((A+j:Nat):Int)).drop A) :
    Lead m B q (fun x=>M (pad A x)):=by
  have hP:∀j:Nat,j < B→row p ((A+j:Nat):Int)≠[]→PRow m B j (row q (j:Int)):=fun j hj hn=>by
    have k:=h.tab.prow (show A+j < A+B by omega) hn
    rw[hr j hj]
    refine⟨by rw[List.length_drop,k.len];omega,k.ent.drop _,fun i hi=>by rw[ZfC];exact k.zero _ (by omega),?_,?_,?_⟩ <;> rw[ZfC]
    · exact k.pos
    · exact k.lt
    · exact k.dvd
  have hE:∀j:Nat,j < B→(row q (j:Int)=[]↔row p ((A+j:Nat):Int)=[]):=fun j hj=>by
    constructor
    · intro e
      by_cases hn:row p ((A+j:Nat):Int)=[]
      · exact hn
      · exact absurd e (hP j hj hn).ne
    · intro e;rw[hr j hj,e];simp
  have hdv:∀j:Nat,j < B→dv m q j=dv m p (A+j):=fun j hj=>by
    unfold dv
    by_cases hn:row p ((A+j:Nat):Int)=[]
    · rw[if_pos hn,if_pos ((hE j hj).2 hn)]
    · rw[if_neg hn,if_neg fun e=>hn ((hE j hj).1 e),hr j hj,ZfC]
  have hpad:∀(x y:Vc) (c:Int),pad A (fun i=>x i+c*y i)=fun i=>pad A x i+c*pad A y i:=fun x y c=>by
    funext i
    unfold pad
    by_cases h:i < A
    · simp[h]
    · simp[h]
  exact {
    tab:=⟨hl,fun j hj=>by
      by_cases hn:row p ((A+j:Nat):Int)=[]
      · exact .inl ((hE j hj).2 hn)
      · exact .inr (hP j hj hn)⟩
    sub := ⟨h.sub.alike _ _ h.sub.zero fun i _=>Zbz (by unfold pad;simp),fun x y hx hy c=>by rw[hpad];exact h.sub.lin _ _ hx hy c,
      fun x y hx e=>h.sub.alike _ _ hx fun i hi=>by
        unfold pad
        by_cases k:i < A
        · simp[k]
        · simp only[k,if_false]
          exact e (i - A) (by omega)⟩
    own := fun j hj hn=>by
      have hn' : row p ((A+j:Nat):Int)≠[]:=fun e=>hn ((hE j hj).2 e)
      refine h.sub.alike _ _ (h.own (A+j) (by omega) hn') fun i hi=>Zbz ?_
      unfold pad
      by_cases k:i < A
      · simp only[k,if_true]
        exact(h.tab.prow (show A+j < A+B by omega) hn').zero i (by omega)
      · simp only[k,if_false]
        show rd (row p ((A+j:Nat):Int)) (i:Int)=rd (row q (j:Int)) ((i - A:Nat):Int)
        rw[hr j hj,ZfC,show A+(i - A)=i by omega]
    lead := fun x hx j hj hz=>by
      have:=h.lead _ hx (A+j) (by omega) fun i hi=>by
        unfold pad
        by_cases k:i < A
        · simp[k]
        · simp only[k,if_false]
          exact hz _ (by omega)
      rw[hdv j hj]
      unfold pad at this
      rw[if_neg (by omega),show A+j - A=j by omega]at this
      exact this }
theorem ZbF {a b:List Int} {i:Nat} (h:i < a.length):rd (a++b) (i:Int)=rd a (i:Int):=by
 simp[rd,List.getD_eq_getElem?_getD,List.getElem?_append,h]
theorem ZbN {a b:List Int} {i:Nat} (h:a.length≤i):rd (a++b) (i:Int)=rd b ((i - a.length:Nat):Int):=by
 simp only[rd,Int.toNat_natCast,List.getD_eq_getElem?_getD,List.getElem?_append,if_neg (show ¬ i < a.length by omega)]
theorem ZfT {A B k:Nat} {f e:Nat→List Int} (hf:∀i,i < k→(f i).length=A) (hM:Lead m (A+B) p (Sp m (A+B) (Gn (fun i=>f i++e i) k))) (hL:Sub m A (fun x=>∃y,Sp m (A+B) (Gn (fun i=>f i++e i) k) y∧∀i,i < A→m∣y i - x i)) (x:Vc) :
  (∃y,Sp m (A+B) (Gn (fun i=>f i++e i) k) y∧∀i,i < A→m∣y i - x i)↔Sp m A (Gn f k) x:=by
 constructor
 ·
  rintro⟨y,hy,h⟩
  refine .alike ?_ h
  have hs:Sub m (A+B) (Sp m A (Gn f k)):=⟨.nil,fun x y hx hy c=>hx.plus (hy.mul c),fun x y hx h => .alike hx fun i hi=>h i (by omega)⟩
  refine hs.all (fun g hg => ?_) hy
  obtain⟨i,hi,rfl⟩:=hg
  refine .alike (.gen ⟨i,hi,rfl⟩) fun j hj=>Zbz ?_
  show rd (f i) (j:Int)=rd (f i++e i) (j:Int)
  rw[ZbF (by rw[hf i hi];exact hj)]
 ·
  intro hx
  refine hL.all (fun g hg => ?_) hx
  obtain⟨i,hi,rfl⟩:=hg
  refine⟨_,.gen ⟨i,hi,rfl⟩,fun j hj=>Zbz ?_⟩
  show rd (f i++e i) (j:Int)=rd (f i) (j:Int)
  rw[ZbF (by rw[hf i hi];exact hj)]
end
theorem Zdg {t:List Int} {j:Nat} {x:Int} (h:j < t.length):rd (t.set j x) (j:Int)=x:=by
 rw[Zb3 (by rw[List.length_set];exact h)];simp
theorem Zeo {t:List Int} {i j:Nat} {x:Int} (h:i≠j):rd (t.set j x) (i:Int)=rd t (i:Int):=by
 simp only[rd,Int.toNat_natCast,List.getD_eq_getElem?_getD,List.getElem?_set,if_neg (show ¬ j=i from fun e=>h e.symm)]
end Go.Proofs.YthmcpmnhdbeahaaGreat.V
namespace Go.Proofs.YthmcpmnhdbeahaaGreat.V
open Go.RowKit Go.Proofs.YthmcpmnhdbeahaaGreat.D Go.Proofs.YthmcpmnhdbeahaaGreat.P
def unitC (c i:Nat):List Int:=(List.replicate c (0:Int)).set i 1
theorem ZcT (c i:Nat):(unitC c i).length=c:=by simp[unitC]
theorem ZgH {m:Int} (m2:2≤m) (c i:Nat):AllIn m (unitC c i):=ZbX fun x hx=>by
 rcases List.mem_or_eq_of_mem_set hx with h|h
 ·
  rw[List.mem_replicate]at h;omega
 ·
  omega
theorem Zcc (g:List (List Int)) (m:Int) (u v:List Int) (d:Nat):(bdL g m u v d).length=(cells g ((d+1:Nat):Int)).toNat:=by rw[bdL,List.length_map,List.length_range]
theorem ZiX {m:Int} (m2:2≤m) (g:List (List Int)) (u v:List Int) (d:Nat):AllIn m (bdL g m u v d):=ZbX fun x hx=>by
 obtain⟨i,_,rfl⟩:=List.mem_map.1 hx
 exact⟨Int.emod_nonneg _ (by omega),Int.emod_lt_of_pos _ (by omega)⟩
noncomputable def bdU (g:List (List Int)) (m:Int) (u:List Int) (e i:Nat):List Int:=bdL g m u (unitC (cells g (e:Int)).toNat i) e
noncomputable def bdG (g:List (List Int)) (m:Int) (u:List Int):Nat→Vc→Prop
 | 0=>fun _=>False
 | e+1=>Gn (bdU g m u e) (cells g (e:Int)).toNat
noncomputable def bdA (g:List (List Int)) (m:Int) (u:List Int) (e i:Nat):List Int:=bdU g m u e i++unitC (cells g (e:Int)).toNat i
noncomputable def nB (g:List (List Int)) (e:Nat):Nat:=(cells g (e:Int)).toNat
theorem Zip {g:List (List Int)} (hg:Grp g) {m:Int} (m2:2≤m) {e:Nat} (he:e≤3) (i:Nat):Co g m e (unitC (cells g (e:Int)).toNat i):=by
 have hb:=Zc7 hg (d:=(e:Int)) (by omega)
 exact⟨⟨by omega,by omega⟩,by rw[ZcT];omega,ZgH m2 _ _⟩
theorem Zgn (m:Int) {c:Nat} (hc:c≤100000):ZaW.f m (c:Int)=some (m,List.replicate c []):=by
 rw[ZaW.f_eq,Int.toNat_natCast]
 ((with_reducible repeat (first|refine Zj (by first|assumption|omega|rfl|exact B_pos (by omega)) ?_|refine Zi (by first|assumption|omega|decide|exact B_not (by omega)) ?_|refine Za (by first|assumption) ?_|dsimp only));first|done|(with_reducible rfl)|simp (disch:=omega) only[w64]|(show False;done))
theorem concat2 {a b:List Int} (ha:a.length≤1000000) (hb:b.length≤1000000):Zk.f [a,b]=some (a++b):=by
 have l2:([a,b]:List (List Int)).length=2:=rfl
 have r0:row [a,b] 0=a:=rfl
 have r1:row [a,b] 1=b:=rfl
 have w1:wrapI (0+1)=1:=w64 (by omega) (by omega)
 have w2:wrapI (1+1)=2:=w64 (by omega) (by omega)
 have w3:wrapI (0+(a.length:Int))=(a.length:Int):=by rw[w64 (by omega) (by omega)];omega
 have w4:wrapI ((a.length:Int)+(b.length:Int))=((a.length+b.length:Nat):Int):=by rw[w64 (by omega) (by omega)];omega
 have w5:wrapI (0 - 0)=0:=w64 (by omega) (by omega)
 have hG:ZaC.f ((a.length+b.length:Nat):Int)=some []:=by
  have w6:wrapI (((a.length+b.length:Nat):Int) - 0)=((a.length+b.length:Nat):Int):=by rw[w64 (by omega) (by omega)];omega
  rw[ZaC.f_eq,w5,w6,Int.toNat_natCast,List.length_replicate]
  by_cases h:a.length+b.length=0
  ·
   rw[h];((with_reducible repeat (first|refine Zj (by first|assumption|omega|rfl|exact B_pos (by omega)) ?_|refine Zi (by first|assumption|omega|decide|exact B_not (by omega)) ?_|refine Za (by first|assumption) ?_|dsimp only));first|done|(with_reducible rfl)|simp (disch:=omega) only[w64]|(show False;done))
  ·
   (with_reducible repeat (first|refine Zj (by first|assumption|omega|rfl|exact B_pos (by omega)) ?_|refine Zi (by first|assumption|omega|decide|exact B_not (by omega)) ?_|refine Za (by first|assumption) ?_|dsimp only))
   rfl
 rw[Zk.f_eq,l2,Zk.l0_eq,r0,w1,w3]
 (with_reducible repeat (first|refine Zj (by first|assumption|omega|rfl|exact B_pos (by omega)) ?_|refine Zi (by first|assumption|omega|decide|exact B_not (by omega)) ?_|refine Za (by first|assumption) ?_|dsimp only))
 rw[Zk.l0_eq,r1,w2,w4]
 (with_reducible repeat (first|refine Zj (by first|assumption|omega|rfl|exact B_pos (by omega)) ?_|refine Zi (by first|assumption|omega|decide|exact B_not (by omega)) ?_|refine Za (by first|assumption) ?_|dsimp only))
 rw[Zk.l0_eq]
 (with_reducible repeat (first|refine Zj (by first|assumption|omega|rfl|exact B_pos (by omega)) ?_|refine Zi (by first|assumption|omega|decide|exact B_not (by omega)) ?_|refine Za (by first|assumption) ?_|dsimp only))
 rw[l2,Zk.l1_eq,r0,w1,show([]:List Int).length=0 from rfl]
 (with_reducible repeat (first|refine Zj (by first|assumption|omega|rfl|exact B_pos (by omega)) ?_|refine Zi (by first|assumption|omega|decide|exact B_not (by omega)) ?_|refine Za (by first|assumption) ?_|dsimp only))
 rw[List.nil_append,Zk.l1_eq,r1,w2]
 (with_reducible repeat (first|refine Zj (by first|assumption|omega|rfl|exact B_pos (by omega)) ?_|refine Zi (by first|assumption|omega|decide|exact B_not (by omega)) ?_|refine Za (by first|assumption) ?_|dsimp only))
 rw[Zk.l1_eq]
 ((with_reducible repeat (first|refine Zj (by first|assumption|omega|rfl|exact B_pos (by omega)) ?_|refine Zi (by first|assumption|omega|decide|exact B_not (by omega)) ?_|refine Za (by first|assumption) ?_|dsimp only));first|done|(with_reducible rfl)|simp (disch:=omega) only[w64]|(show False;done))
theorem nA_bd {g:List (List Int)} (hg:Grp g) {e:Nat} (he:e≤4):nB g e≤16807∧((nB g e:Nat):Int)=cells g (e:Int):=by
 have hb:=Zc7 hg (d:=(e:Int)) (by omega)
 unfold nB
 omega
theorem Zis {g:List (List Int)} (hg:Grp g) {m:Int} {u:List Int} (hm:Mdl g m u) {n:Nat} (hn:n≤3) :
  ∃p,Zai.f g m u (n:Int)=some (m,p)∧Pst m (nB g n) p [] (Sp m (nB g n) (bdG g m u n)):=by
 have m2:=hm.m2;have m12:=hm.m12
 obtain⟨b1,b2⟩:=nA_bd hg (e:=n) (by omega)
 have hc:=ZeK hg (d:=(n:Int)) (by omega) (by omega)
 have hN:=Zgn m (c:=nB g n) (by omega)
 rw[b2]at hN
 rw[Zai.f_eq,hc,Option.bind_some,hN,Option.bind_some]
 cases n with
 | zero =>
  refine⟨_,if_pos rfl,Pst.none fun g h=>h⟩
 | succ e =>
  obtain⟨c1,c2⟩:=nA_bd hg (e:=e) (by omega)
  have w:wrapI (((e+1:Nat):Int) - 1)=(e:Int):=by rw[w64 (by omega) (by omega)];omega
  have hc2:=ZeK hg (d:=(e:Int)) (by omega) (by omega)
  have hz:=zero_ hg (n:=e) (by omega)
  rw[←show nB g e=(cells g (e:Int)).toNat from rfl]at hz
  rw[w,hc2,Option.bind_some,if_neg (by omega),←c2]
  have key:∀k,k≤nB g e→∃p,Zai.l0 ((e+1:Nat):Int) ((nB g e:Nat):Int) 0 g m u m (List.replicate (nB g (e+1)) [])=Zai.l0 ((e+1:Nat):Int) ((nB g e:Nat):Int) (k:Int) g m u m p∧Pst m (nB g (e+1)) p [] (Sp m (nB g (e+1)) (Gn (bdU g m u e) k)):=by
   intro k
   induction k with
   | zero=>exact fun _=>⟨_,rfl,Pst.none fun g ⟨i,hi,_⟩=>by omega⟩
   | succ k ih =>
    intro hk
    obtain⟨p,h1,h2⟩:=ih (by omega)
    have hl:(List.replicate (nB g e) (0:Int)).length=nB g e:=List.length_replicate
    have hB:=Zfd hg hm (Zip hg m2 (e:=e) (by omega) k)
    have hB:ZaK.f g m u (e:Int) ((List.replicate (nB g e) (0:Int)).set k 1)=some (((e+1:Nat):Int),bdU g m u e k):=hB
    obtain⟨p', h3,h4⟩:=put_ m2 m12 (show nB g (e+1)≤100000 by omega) (h2.add (r:=bdU g m u e k) ⟨Zcc ..,ZiX m2 _ _ _ _⟩ Zho)
    refine⟨p', ?_,h4⟩
    rw[h1,Zai.l0_eq,w,wn (j:=k) (by omega),Int.toNat_natCast]
    ((with_reducible repeat (first|refine Zj (by first|assumption|omega|rfl|exact B_pos (by omega)) ?_|refine Zi (by first|assumption|omega|decide|exact B_not (by omega)) ?_|refine Za (by first|assumption) ?_|dsimp only));first|done|(with_reducible rfl)|simp (disch:=omega) only[w64]|(show False;done))
  obtain⟨p,h1,h2⟩:=key _ (Nat.le_refl _)
  refine⟨p,?_,h2⟩
  have e1:(cells g ((e+1:Nat):Int)).toNat=nB g (e+1):=rfl
  rw[h1,Zai.l0_eq]
  ((with_reducible repeat (first|refine Zj (by first|assumption|omega|rfl|exact B_pos (by omega)) ?_|refine Zi (by first|assumption|omega|decide|exact B_not (by omega)) ?_|refine Za (by first|assumption) ?_|dsimp only));first|done|(with_reducible rfl)|simp (disch:=omega) only[w64]|(show False;done))
theorem Zgd {g:List (List Int)} (hg:Grp g) {m:Int} {u:List Int} (hm:Mdl g m u) {n:Nat} (hn:n≤3) :
  ∃p,Zax.f g m u (n:Int)=some (m,p,((nB g (n+1):Nat):Int))∧Pst m (nB g (n+1)+nB g n) p [] (Sp m (nB g (n+1)+nB g n) (Gn (bdA g m u n) (nB g n))):=by
 have m2:=hm.m2;have m12:=hm.m12
 obtain⟨b1,b2⟩:=nA_bd hg (e:=n) (by omega)
 obtain⟨c1,c2⟩:=nA_bd hg (e:=n+1) (by omega)
 have hc:=ZeK hg (d:=(n:Int)) (by omega) (by omega)
 have hc2:=ZeK hg (d:=((n+1:Nat):Int)) (by omega) (by omega)
 have hz:=zero_ hg (n:=n) (by omega)
 rw[←show nB g n=(cells g (n:Int)).toNat from rfl]at hz
 have hN:=Zgn m (c:=nB g (n+1)+nB g n) (by omega)
 have w:wrapI ((nB g (n+1):Int)+(nB g n:Int))=((nB g (n+1)+nB g n:Nat):Int):=by rw[w64 (by omega) (by omega)];omega
 rw[Zax.f_eq,wn (j:=n) (by omega),hc2,Option.bind_some,hc,Option.bind_some,←b2,←c2,w,hN,Option.bind_some]
 have key:∀k,k≤nB g n→∃p,Zax.l0 (n:Int) ((nB g (n+1):Nat):Int) ((nB g n:Nat):Int) 0 g m u m (List.replicate (nB g (n+1)+nB g n) [])=Zax.l0 (n:Int) ((nB g (n+1):Nat):Int) ((nB g n:Nat):Int) (k:Int) g m u m p∧Pst m (nB g (n+1)+nB g n) p [] (Sp m (nB g (n+1)+nB g n) (Gn (bdA g m u n) k)):=by
  intro k
  induction k with
  | zero=>exact fun _=>⟨_,rfl,Pst.none fun g ⟨i,hi,_⟩=>by omega⟩
  | succ k ih =>
   intro hk
   obtain⟨p,h1,h2⟩:=ih (by omega)
   have hl:(List.replicate (nB g n) (0:Int)).length=nB g n:=List.length_replicate
   have hB:=Zfd hg hm (Zip hg m2 (e:=n) (by omega) k)
   have hB:ZaK.f g m u (n:Int) ((List.replicate (nB g n) (0:Int)).set k 1)=some (((n+1:Nat):Int),bdU g m u n k):=hB
   have bl:(bdU g m u n k).length=nB g (n+1):=Zcc ..
   have ul:(unitC (nB g n) k).length=nB g n:=ZcT ..
   have hC:Zk.f [bdU g m u n k,(List.replicate (nB g n) (0:Int)).set k 1]=some (bdA g m u n k):=concat2 (a:=bdU g m u n k) (b:=unitC (nB g n) k) (by omega) (by omega)
   have al:(bdA g m u n k).length=nB g (n+1)+nB g n:=by
    show(bdU g m u n k++unitC (nB g n) k).length=_
    rw[List.length_append,bl,ul]
   obtain⟨p', h3,h4⟩:=put_ m2 m12 (show nB g (n+1)+nB g n≤100000 by omega) (h2.add (r:=bdA g m u n k) ⟨al,(ZiX m2 _ _ _ _).append (ZgH m2 _ _)⟩ Zho)
   refine⟨p', ?_,h4⟩
   rw[h1,Zax.l0_eq,wn (j:=k) (by omega),Int.toNat_natCast]
   ((with_reducible repeat (first|refine Zj (by first|assumption|omega|rfl|exact B_pos (by omega)) ?_|refine Zi (by first|assumption|omega|decide|exact B_not (by omega)) ?_|refine Za (by first|assumption) ?_|dsimp only));first|done|(with_reducible rfl)|simp (disch:=omega) only[w64]|(show False;done))
 obtain⟨p,h1,h2⟩:=key _ (Nat.le_refl _)
 refine⟨p,?_,h2⟩
 rw[h1,Zax.l0_eq]
 ((with_reducible repeat (first|refine Zj (by first|assumption|omega|rfl|exact B_pos (by omega)) ?_|refine Zi (by first|assumption|omega|decide|exact B_not (by omega)) ?_|refine Za (by first|assumption) ?_|dsimp only));first|done|(with_reducible rfl)|simp (disch:=omega) only[w64]|(show False;done))
def Zcp (p:List (List Int)) (A B:Nat):List (List Int):=(List.range B).map fun j:Nat=>(row p ((A+j:Nat):Int)).drop A
def ZcS (p:List (List Int)) (A:Nat):List (List Int):=(List.range A).map fun j:Nat=>(row p (j:Int)).take A
theorem Zhi {p:List (List Int)} {A B j:Nat} (h:j < B):row (Zcp p A B) (j:Int)=(row p ((A+j:Nat):Int)).drop A:=by
 rw[ZdG (by simpa [Zcp] using h)]
 simp[Zcp]
theorem ZdK {p:List (List Int)} {A j:Nat} (h:j < A):row (ZcS p A) (j:Int)=(row p (j:Int)).take A:=by
 rw[ZdG (by simpa [ZcS] using h)]
 simp[ZcS]
theorem ZfG (F:Nat→List Int) (B k:Nat) (h:k < B):((List.range k).map F++List.replicate (B - k) []).set k (F k)=(List.range (k+1)).map F++List.replicate (B - (k+1)) []:=by
 rw[List.set_append,if_neg (by simp),List.length_map,List.length_range,Nat.sub_self,show B - k=(B - (k+1))+1 by omega,List.replicate_succ,List.set_cons_zero,List.range_succ,List.map_append]
 simp
theorem ZfF (F:Nat→List Int) (B k:Nat) (h:k < B) (e:F k=[]):(List.range k).map F++List.replicate (B - k) []=(List.range (k+1)).map F++List.replicate (B - (k+1)) []:=by
 rw[show B - k=(B - (k+1))+1 by omega,List.replicate_succ,List.range_succ,List.map_append,List.map_singleton,e]
 simp
theorem ZgA (F:Nat→List Int) (B k:Nat) (h:k≤B):((List.range k).map F++List.replicate (B - k) []).length=B:=by simp;omega
theorem part_ {m:Int} {p:List (List Int)} {A B:Nat} (hA:A≤100000) (hB:B≤100000) (ht:PTab m (A+B) p):Z7.f m p (A:Int)=some (m,Zcp p A B,m,p):=by
 have hl:=ht.len
 have w:wrapI ((p.length:Int) - (A:Int))=(B:Int):=by rw[w64 (by omega) (by omega)];omega
 rw[Z7.f_eq,w,Zgn m hB,Option.bind_some]
 obtain⟨F,hF⟩:∃F:Nat→List Int,F=fun j:Nat=>(row p ((A+j:Nat):Int)).drop A:=⟨_,rfl⟩
 have loop:=up B (fun k=>Z7.l0 (A:Int) ((A+k:Nat):Int) m p m ((List.range k).map F++List.replicate (B - k) [])) (fun k hk=>by
  have hw:wrapI (((A+k:Nat):Int) - (A:Int))=(k:Int):=by rw[w64 (by omega) (by omega)];omega
  have rl:=ZgA F B k (by omega)
  have hFk:F k=(row p ((A+k:Nat):Int)).drop A:=by rw[hF]
  rw[show A+(k+1)=A+k+1 from rfl,Z7.l0_eq,wn (j:=A+k) (by omega),hw]
  simp only[Int.toNat_natCast]
  rw[←hFk]
  by_cases hr:row p ((A+k:Nat):Int)=[]
  ·
   have e0:(row p ((A+k:Nat):Int)).length=0:=by rw[hr];rfl
   rw[←ZfF F B k hk (by rw[hFk,hr];simp)]
   ((with_reducible repeat (first|refine Zj (by first|assumption|omega|rfl|exact B_pos (by omega)) ?_|refine Zi (by first|assumption|omega|decide|exact B_not (by omega)) ?_|refine Za (by first|assumption) ?_|dsimp only));first|done|(with_reducible rfl)|simp (disch:=omega) only[w64]|(show False;done))
  ·
   have hP:=ht.prow (show A+k < A+B by omega) hr
   have e1:=hP.len
   have e2:(F k).length=B:=by rw[hFk,List.length_drop,e1];omega
   rw[←ZfG F B k hk]
   ((with_reducible repeat (first|refine Zj (by first|assumption|omega|rfl|exact B_pos (by omega)) ?_|refine Zi (by first|assumption|omega|decide|exact B_not (by omega)) ?_|refine Za (by first|assumption) ?_|dsimp only));first|done|(with_reducible rfl)|simp (disch:=omega) only[w64]|(show False;done)))
 rw[List.range_zero,List.map_nil,List.nil_append,Nat.sub_zero,Nat.add_zero,Nat.sub_self,List.replicate_zero,List.append_nil]at loop
 rw[show Zcp p A B=(List.range B).map F by rw[hF];rfl]
 refine loop.trans ?_
 rw[Z7.l0_eq]
 ((with_reducible repeat (first|refine Zj (by first|assumption|omega|rfl|exact B_pos (by omega)) ?_|refine Zi (by first|assumption|omega|decide|exact B_not (by omega)) ?_|refine Za (by first|assumption) ?_|dsimp only));first|done|(with_reducible rfl)|simp (disch:=omega) only[w64]|(show False;done))
noncomputable def coM (g:List (List Int)) (m:Int) (u:List Int) (n:Nat):Vc→Prop:=fun x=>Sp m (nB g (n+1)+nB g n) (Gn (bdA g m u n) (nB g n)) (pad (nB g (n+1)) x)
theorem Zch {m:Int} {p:List (List Int)} {A B:Nat} {M:Vc→Prop} (m0:0 < m) (h:Lead m (A+B) p M):Lead m B (Zcp p A B) (fun x=>M (pad A x)) :=
 h.last m0 (by simp[Zcp]) fun j hj=>Zhi hj
theorem Zi5 {g:List (List Int)} (hg:Grp g) {m:Int} {u:List Int} (hm:Mdl g m u) {n:Nat} (hn:n≤3) :
  ∃q,Zbx.f g m u (n:Int)=some (m,q)∧Lead m (nB g n) q (coM g m u n):=by
 have m2:=hm.m2
 obtain⟨b1,b2⟩:=nA_bd hg (e:=n) (by omega)
 obtain⟨c1,c2⟩:=nA_bd hg (e:=n+1) (by omega)
 obtain⟨p,h1,h2⟩:=Zgd hg hm hn
 have h3:=h2.lead (by omega)
 have h4:=part_ (m:=m) (A:=nB g (n+1)) (B:=nB g n) (by omega) (by omega) h3.tab
 refine⟨_,?_,Zch (by omega) h3⟩
 rw[Zbx.f_eq]
 ((with_reducible repeat (first|refine Zj (by first|assumption|omega|rfl|exact B_pos (by omega)) ?_|refine Zi (by first|assumption|omega|decide|exact B_not (by omega)) ?_|refine Za (by first|assumption) ?_|dsimp only));first|done|(with_reducible rfl)|simp (disch:=omega) only[w64]|(show False;done))
theorem ZlE {g:List (List Int)} (hg:Grp g) {m:Int} {u:List Int} (hm:Mdl g m u) {n:Nat} (hn:n≤3):ZT.f g m u (n:Int)=some ((List.range (nB g n)).map (bdA g m u n)):=by
 have m2:=hm.m2
 obtain⟨b1,b2⟩:=nA_bd hg (e:=n) (by omega)
 obtain⟨c1,c2⟩:=nA_bd hg (e:=n+1) (by omega)
 have hc:=Zd5 hg (d:=(n:Int)) (by omega) (by omega)
 have hc2:=Zd5 hg (d:=((n+1:Nat):Int)) (by omega) (by omega)
 rw[←b2]at hc
 rw[←c2]at hc2
 have hz:Za2.f g (n:Int)=some ((n:Int),List.replicate (nB g n) 0):=by
  rw[Za2.f_eq,hc,Option.bind_some,Int.toNat_natCast]
  ((with_reducible repeat (first|refine Zj (by first|assumption|omega|rfl|exact B_pos (by omega)) ?_|refine Zi (by first|assumption|omega|decide|exact B_not (by omega)) ?_|refine Za (by first|assumption) ?_|dsimp only));first|done|(with_reducible rfl)|simp (disch:=omega) only[w64]|(show False;done))
 have l3:∀x:List Int,([x]:List (List Int)).length=1:=fun _=>rfl
 have l2:∀x:Int,([x]:List Int).length=1:=fun _=>rfl
 rw[ZT.f_eq,hc,Option.bind_some]
 have loop:=up (nB g n) (fun k=>ZT.l0 (n:Int) ((nB g n:Nat):Int) (k:Int) g m u ((List.range k).map (bdA g m u n))) (fun k hk=>by
  have hl:(List.replicate (nB g n) (0:Int)).length=nB g n:=List.length_replicate
  have bl:(bdU g m u n k).length=nB g (n+1):=Zcc ..
  have ul:((List.replicate (nB g n) (0:Int)).set k 1).length=nB g n:=by simp
  have hCo:=Zip hg m2 (e:=n) (by omega) k
  have inner:=up (nB g (n+1)) (fun j=>ZT.l1 (n:Int) ((nB g n:Nat):Int) (k:Int) (j:Int) g m u ((List.range k).map (bdA g m u n)) (n:Int) ((bdU g m u n k).take j) ((List.replicate (nB g n) (0:Int)).set k 1)) (fun j hj=>by
   have hL:=(Zff hg (n:=n+1) (i:=j) (by omega) (by omega)).2
   have hll:=ZcX ((g.length:Int) - 1) (n+1) j
   obtain⟨hx,_⟩:=Zgm hg (n:=n+1) (i:=j) (by omega)
   have hS:=Side_ hg hm hCo hx hll
   have hS:Zar.f g m u (n:Int) ((List.replicate (nB g n) (0:Int)).set k 1) (lst ((g.length:Int) - 1) (n+1) j)=some (rd (bdU g m u n k) (j:Int)):=by
    rw[Zb3 (by omega)]
    simp only[bdU,bdL,List.getElem_map,List.getElem_range]
    exact hS
   have tl:((bdU g m u n k).take j).length=j:=by rw[List.length_take];omega
   rw[Zcx (by omega),ZT.l1_eq,wn (j:=n) (by omega),wn (j:=j) (by omega)]
   (with_reducible repeat (first|refine Zj (by first|assumption|omega|rfl|exact B_pos (by omega)) ?_|refine Zi (by first|assumption|omega|decide|exact B_not (by omega)) ?_|refine Za (by first|assumption) ?_|dsimp only))
   rw[l2]
   ((with_reducible repeat (first|refine Zj (by first|assumption|omega|rfl|exact B_pos (by omega)) ?_|refine Zi (by first|assumption|omega|decide|exact B_not (by omega)) ?_|refine Za (by first|assumption) ?_|dsimp only));first|done|(with_reducible rfl)|simp (disch:=omega) only[w64]|(show False;done)))
  simp only[Int.natCast_zero,List.take_zero]at inner
  rw[List.take_of_length_le (by omega)]at inner
  have ml:((List.range k).map (bdA g m u n)).length=k:=by simp
  rw[ZT.l0_eq,Int.toNat_natCast]
  (with_reducible repeat (first|refine Zj (by first|assumption|omega|rfl|exact B_pos (by omega)) ?_|refine Zi (by first|assumption|omega|decide|exact B_not (by omega)) ?_|refine Za (by first|assumption) ?_|dsimp only))
  rw[inner,ZT.l1_eq,wn (j:=n) (by omega),wn (j:=k) (by omega),l3]
  (with_reducible repeat (first|refine Zj (by first|assumption|omega|rfl|exact B_pos (by omega)) ?_|refine Zi (by first|assumption|omega|decide|exact B_not (by omega)) ?_|refine Za (by first|assumption) ?_|dsimp only))
  rw[List.range_succ,List.map_append,List.map_singleton]
  rfl)
 simp only[Int.natCast_zero,List.range_zero,List.map_nil]at loop
 rw[loop,ZT.l0_eq]
 ((with_reducible repeat (first|refine Zj (by first|assumption|omega|rfl|exact B_pos (by omega)) ?_|refine Zi (by first|assumption|omega|decide|exact B_not (by omega)) ?_|refine Za (by first|assumption) ?_|dsimp only));first|done|(with_reducible rfl)|simp (disch:=omega) only[w64]|(show False;done))
theorem Zk9 {g:List (List Int)} {m:Int} {u:List Int} {n k:Nat}:(bdA g m u n k).length=nB g (n+1)+nB g n:=by
 show(bdU g m u n k++unitC (nB g n) k).length=_
 rw[List.length_append,ZcT]
 show(bdL _ _ _ _ _).length+_=_
 rw[Zcc]
 rfl
theorem ZkM {g:List (List Int)} (hg:Grp g) {m:Int} {u:List Int} (hm:Mdl g m u) {n:Nat} (hn:n≤3) :
  ∃p,Zag.f g m u (n:Int)=some (ZcS p (nB g (n+1)),Zcp p (nB g (n+1)) (nB g n),p)∧Lead m (nB g (n+1)+nB g n) p (Sp m (nB g (n+1)+nB g n) (Gn (bdA g m u n) (nB g n))):=by
 have m2:=hm.m2;have m12:=hm.m12
 obtain⟨b1,b2⟩:=nA_bd hg (e:=n) (by omega)
 obtain⟨c1,c2⟩:=nA_bd hg (e:=n+1) (by omega)
 have hc:=Zd5 hg (d:=(n:Int)) (by omega) (by omega)
 have hc2:=Zd5 hg (d:=((n+1:Nat):Int)) (by omega) (by omega)
 rw[←b2]at hc
 rw[←c2]at hc2
 obtain⟨A,hA⟩:∃A,A=nB g (n+1):=⟨_,rfl⟩
 obtain⟨B,hB⟩:∃B,B=nB g n:=⟨_,rfl⟩
 have hX:((List.range (nB g n)).map (bdA g m u n)).length=nB g n:=by simp
 have hXr:∀i:Nat,i < nB g n→row ((List.range (nB g n)).map (bdA g m u n)) (i:Int)=bdA g m u n i:=fun i hi=>by
  rw[ZdG (by omega)];simp
 obtain⟨p,h1,h2⟩:=Zke m2 m12 (W:=nB g (n+1)+nB g n) (by omega) (X:=(List.range (nB g n)).map (bdA g m u n)) (by omega) (fun i hi=>by
  rw[hXr i (by omega)]
  exact⟨Zk9,(ZiX m2 _ _ _ _).append (ZgH m2 _ _)⟩)
 have hM:Sp m (nB g (n+1)+nB g n) (Gn (fun i=>row ((List.range (nB g n)).map (bdA g m u n)) (i:Int)) ((List.range (nB g n)).map (bdA g m u n)).length)=Sp m (nB g (n+1)+nB g n) (Gn (bdA g m u n) (nB g n)):=by
  congr 1
  funext x
  apply propext
  rw[hX]
  constructor
  ·
   rintro⟨i,hi,rfl⟩;exact⟨i,hi,congrArg V (hXr i hi)⟩
  ·
   rintro⟨i,hi,rfl⟩;exact⟨i,hi,(congrArg V (hXr i hi)).symm⟩
 rw[hM]at h2
 have h3:=h2.lead (by omega)
 refine⟨p,?_,h3⟩
 have ht:=h3.tab
 have hl:=ht.len
 have w:wrapI ((nB g (n+1):Int)+(nB g n:Int))=((nB g (n+1)+nB g n:Nat):Int):=by rw[w64 (by omega) (by omega)];omega
 have hSd:=ZlE hg hm hn
 rw[Zag.f_eq,wn (j:=n) (by omega),hc2,Option.bind_some,hc,Option.bind_some,hSd,Option.bind_some,w,h1,Option.bind_some,Int.toNat_natCast,Int.toNat_natCast]
 (with_reducible repeat (first|refine Zj (by first|assumption|omega|rfl|exact B_pos (by omega)) ?_|refine Zi (by first|assumption|omega|decide|exact B_not (by omega)) ?_|refine Za (by first|assumption) ?_|dsimp only))
 rw[←hA,←hB]at hl ht w ⊢
 obtain⟨F,hF⟩:∃F:Nat→List Int,F=fun j:Nat=>(row p (j:Int)).take A:=⟨_,rfl⟩
 obtain⟨H,hH⟩:∃H:Nat→List Int,H=fun j:Nat=>(row p ((A+j:Nat):Int)).drop A:=⟨_,rfl⟩
 have loop1:=up A (fun k=>Zag.l0 (A:Int) (B:Int) (k:Int) p ((List.range k).map F++List.replicate (A - k) []) (List.replicate B [])) (fun k hk=>by
  have rl:=ZgA F A k (by omega)
  have hFk:F k=(row p (k:Int)).take A:=by rw[hF]
  rw[Zag.l0_eq,wn (j:=k) (by omega),w]
  simp only[Int.toNat_natCast]
  rw[←hFk]
  by_cases hr:row p (k:Int)=[]
  ·
   have e0:((row p (k:Int)).length:Int)=0:=by rw[hr];rfl
   rw[←ZfF F A k hk (by rw[hFk,hr];simp)]
   ((with_reducible repeat (first|refine Zj (by first|assumption|omega|rfl|exact B_pos (by omega)) ?_|refine Zi (by first|assumption|omega|decide|exact B_not (by omega)) ?_|refine Za (by first|assumption) ?_|dsimp only));first|done|(with_reducible rfl)|simp (disch:=omega) only[w64]|(show False;done))
  ·
   have hP:=ht.prow (show k < A+B by omega) hr
   have e1:=hP.len
   rw[←ZfG F A k hk]
   ((with_reducible repeat (first|refine Zj (by first|assumption|omega|rfl|exact B_pos (by omega)) ?_|refine Zi (by first|assumption|omega|decide|exact B_not (by omega)) ?_|refine Za (by first|assumption) ?_|dsimp only));first|done|(with_reducible rfl)|simp (disch:=omega) only[w64]|(show False;done)))
 have loop2:=up B (fun k=>Zag.l0 (A:Int) (B:Int) ((A+k:Nat):Int) p ((List.range A).map F) ((List.range k).map H++List.replicate (B - k) [])) (fun k hk=>by
  have rl:=ZgA H B k (by omega)
  have hw:wrapI (((A+k:Nat):Int) - (A:Int))=(k:Int):=by rw[w64 (by omega) (by omega)];omega
  have hHk:H k=(row p ((A+k:Nat):Int)).drop A:=by rw[hH]
  rw[show A+(k+1)=A+k+1 from rfl,Zag.l0_eq,wn (j:=A+k) (by omega),w,hw]
  simp only[Int.toNat_natCast]
  rw[←hHk]
  by_cases hr:row p ((A+k:Nat):Int)=[]
  ·
   have e0:((row p ((A+k:Nat):Int)).length:Int)=0:=by rw[hr];rfl
   rw[←ZfF H B k hk (by rw[hHk,hr];simp)]
   ((with_reducible repeat (first|refine Zj (by first|assumption|omega|rfl|exact B_pos (by omega)) ?_|refine Zi (by first|assumption|omega|decide|exact B_not (by omega)) ?_|refine Za (by first|assumption) ?_|dsimp only));first|done|(with_reducible rfl)|simp (disch:=omega) only[w64]|(show False;done))
  ·
   have hP:=ht.prow (show A+k < A+B by omega) hr
   have e1:=hP.len
   rw[←ZfG H B k hk]
   ((with_reducible repeat (first|refine Zj (by first|assumption|omega|rfl|exact B_pos (by omega)) ?_|refine Zi (by first|assumption|omega|decide|exact B_not (by omega)) ?_|refine Za (by first|assumption) ?_|dsimp only));first|done|(with_reducible rfl)|simp (disch:=omega) only[w64]|(show False;done)))
 rw[List.range_zero,List.map_nil,List.nil_append,Nat.sub_zero,Nat.sub_self,List.replicate_zero,List.append_nil]at loop1
 rw[List.range_zero,List.map_nil,List.nil_append,Nat.sub_zero,Nat.add_zero,Nat.sub_self,List.replicate_zero,List.append_nil]at loop2
 rw[show Zcp p A B=(List.range B).map H by rw[hH];rfl,show ZcS p A=(List.range A).map F by rw[hF];rfl]
 refine(loop1.trans loop2).trans ?_
 rw[Zag.l0_eq,w]
 ((with_reducible repeat (first|refine Zj (by first|assumption|omega|rfl|exact B_pos (by omega)) ?_|refine Zi (by first|assumption|omega|decide|exact B_not (by omega)) ?_|refine Za (by first|assumption) ?_|dsimp only));first|done|(with_reducible rfl)|simp (disch:=omega) only[w64]|(show False;done))
theorem Both_ {g:List (List Int)} (hg:Grp g) {m:Int} {u:List Int} (hm:Mdl g m u) {n:Nat} (hn:n≤3) :
  ∃p q,Za8.f g m u (n:Int)=some (p,q)∧Lead m (nB g n) p (Sp m (nB g n) (bdG g m u n))∧Lead m (nB g n) q (coM g m u n):=by
 have m2:=hm.m2
 obtain⟨b1,b2⟩:=nA_bd hg (e:=n) (by omega)
 have hc:=Zd5 hg (d:=(n:Int)) (by omega) (by omega)
 rw[←b2]at hc
 obtain⟨p,h1,h2⟩:=ZkM hg hm hn
 rw[Za8.f_eq,h1,Option.bind_some,hc,Option.bind_some,Int.toNat_natCast]
 cases n with
 | zero =>
  refine⟨_,_,?_,(Pst.none (G:=bdG g m u 0) fun g h=>h).lead (by omega),Zch (by omega) h2⟩
  ((with_reducible repeat (first|refine Zj (by first|assumption|omega|rfl|exact B_pos (by omega)) ?_|refine Zi (by first|assumption|omega|decide|exact B_not (by omega)) ?_|refine Za (by first|assumption) ?_|dsimp only));first|done|(with_reducible rfl)|simp (disch:=omega) only[w64]|(show False;done))
 | succ e =>
  obtain⟨p', h3,h4⟩:=ZkM hg hm (n:=e) (by omega)
  have w:wrapI (((e+1:Nat):Int) - 1)=(e:Int):=by rw[w64 (by omega) (by omega)];omega
  have h5:=h4.first (q:=ZcS p' (nB g (e+1))) (by omega) (by simp[ZcS]) fun j hj=>ZdK hj
  refine⟨ZcS p' (nB g (e+1)),_,?_,?_,Zch (by omega) h2⟩
  ·
   rw[w]
   ((with_reducible repeat (first|refine Zj (by first|assumption|omega|rfl|exact B_pos (by omega)) ?_|refine Zi (by first|assumption|omega|decide|exact B_not (by omega)) ?_|refine Za (by first|assumption) ?_|dsimp only));first|done|(with_reducible rfl)|simp (disch:=omega) only[w64]|(show False;done))
  ·
   have:(fun x=>∃y,Sp m (nB g (e+1)+nB g e) (Gn (bdA g m u e) (nB g e)) y∧∀i,i < nB g (e+1)→m∣y i - x i)=Sp m (nB g (e+1)) (bdG g m u (e+1)):=by
    funext x
    exact propext (ZfT (fun i hi=>Zcc ..) h4 h5.sub x)
   rw[this]at h5
   exact h5
noncomputable def allM (g:List (List Int)) (m:Int) (u:List Int) (e:Nat):Vc→Prop:=Sp m (nB g (e+1)+nB g e) (Gn (bdA g m u e) (nB g e))
end Go.Proofs.YthmcpmnhdbeahaaGreat.V
namespace Go.Proofs.YthmcpmnhdbeahaaGreat.V
open Go.RowKit Go.Proofs.YthmcpmnhdbeahaaGreat.D Go.Proofs.YthmcpmnhdbeahaaGreat.P
def lc (p:List (List Int)) (t:List Int):Nat→Vc
 | 0=>fun _=>0
 | k+1=>fun i=>lc p t k i+rd t (k:Int)*rd (row p (k:Int)) (i:Int)
theorem Zjx (p:List (List Int)) (t:List Int) (k i:Nat):lc p t (k+1) i=lc p t k i+rd t (k:Int)*rd (row p (k:Int)) (i:Int):=rfl
structure Least0 (m:Int) (W k:Nat) (p:List (List Int)) (M:Vc→Prop) (x y t:List Int):Prop where
 len:y.length=W
 ent:AllIn m y
 dif:M fun i=>rd x (i:Int) - rd y (i:Int)
 lt:∀j:Nat,j < k→rd y (j:Int) < dv m p j
 tlen:t.length=W
 tbd:∀j:Nat,j < W→0≤rd t (j:Int)∧rd t (j:Int)≤12
 tnil:∀j:Nat,row p (j:Int)=[]→rd t (j:Int)=0
 tak:∀i:Nat,i < W→m∣rd x (i:Int) - rd y (i:Int) - lc p t k i
theorem Zkt {p:List (List Int)} {t t' : List Int}:∀k,(∀j:Nat,j < k→rd t (j:Int)=rd t' (j:Int))→lc p t k=lc p t' k:=by
 intro k
 induction k with
 | zero=>intro _;rfl
 | succ k ih =>
  intro h
  funext i
  rw[lc,lc,ih fun j hj=>h j (by omega),h k (by omega)]
theorem Least0.begin {m:Int} {W:Nat} {p:List (List Int)} {M:Vc→Prop} (hM:Lead m W p M) {x:List Int} (hx:x.length=W) (ha:AllIn m x):Least0 m W 0 p M x x (List.replicate W 0) where
 len:=hx
 ent:=ha
 dif:=hM.sub.alike _ _ hM.sub.zero fun i _=>Zbz (by simp)
 lt:=fun j hj=>by omega
 tlen:=List.length_replicate
 tbd:=fun j _=>by rw[Zb5];omega
 tnil:=fun j _=>Zb5 _ _
 tak:=fun i _=>Zbz (by simp[lc])
theorem Least0.skip {m:Int} {W k:Nat} {p:List (List Int)} {M:Vc→Prop} {x y t:List Int} (h:Least0 m W k p M x y t) (hk:k < W) (hr:row p (k:Int)=[]):Least0 m W (k+1) p M x y t :=
  { h with
    lt := fun j hj=>by
      by_cases e:j=k
      · subst e
        rw[show dv m p j=m from if_pos hr]
        exact(h.ent j (by omega) (by rw[h.len];omega)).2
      · exact h.lt j (by omega)
    tak:=fun i hi=>by
      rw[Zjx,h.tnil k hr,Int.zero_mul,Int.add_zero]
      exact h.tak i hi }
theorem Least0.take {m:Int} {W k:Nat} {p:List (List Int)} {M:Vc→Prop} {x y t:List Int} (m2:2≤m) (m12:m≤12) (hM:Lead m W p M) (h:Least0 m W k p M x y t) (hk:k < W) (hr:row p (k:Int)≠[]) :
  Least0 m W (k+1) p M x (mix m 1 y (-(rd y (k:Int) / rd (row p (k:Int)) (k:Int))) (row p (k:Int))) (t.set k (rd y (k:Int) / rd (row p (k:Int)) (k:Int))):=by
 have hP:=hM.tab.prow hk hr
 have p0:=hP.pos
 have p1:=hP.lt
 have yl:=h.len
 have tl:=h.tlen
 obtain⟨y0,y1⟩:=h.ent k (by omega) (by omega)
 obtain⟨q,hq⟩:∃q,q=rd y (k:Int) / rd (row p (k:Int)) (k:Int):=⟨_,rfl⟩
 rw[←hq]
 have hmod:=Int.mul_ediv_add_emod (rd y (k:Int)) (rd (row p (k:Int)) (k:Int))
 rw[←hq]at hmod
 have r0:=Int.emod_nonneg (rd y (k:Int)) (show rd (row p (k:Int)) (k:Int)≠0 by omega)
 have r1:=Int.emod_lt_of_pos (rd y (k:Int)) p0
 have q0:0≤q:=by rw[hq];exact Int.ediv_nonneg y0 (by omega)
 have q1:q≤rd y (k:Int):=by rw[hq];exact Int.ediv_le_self _ y0
 have hy:∀i:Nat,i < W→m∣1*rd y (i:Int)+(-q)*rd (row p (k:Int)) (i:Int) - rd (mix m 1 y (-q) (row p (k:Int))) (i:Int):=fun i hi=>Zcv (by omega)
 refine⟨by rw[ZbB];exact yl,ZcY (by omega),?_,fun j hj => ?_,by rw[List.length_set];exact tl,fun j hj => ?_,fun j hn => ?_,fun i hi => ?_⟩
 ·
  refine hM.sub.alike _ _ (hM.sub.lin _ _ h.dif (hM.own k hk hr) q) fun i hi => ?_
  obtain⟨z,hz⟩:=hy i hi
  refine⟨-z,?_⟩
  rw[Int.mul_neg,←hz,Int.neg_mul]
  show rd x (i:Int) - rd y (i:Int)+q*rd (row p (k:Int)) (i:Int) - (rd x (i:Int) - rd (mix m 1 y (-q) (row p (k:Int))) (i:Int))=_
  omega
 ·
  by_cases e:j=k
  ·
   subst e
   rw[Zcr (by omega),show dv m p j=rd (row p (j:Int)) (j:Int)from if_neg hr,show 1*rd y (j:Int) + -q*rd (row p (j:Int)) (j:Int)=rd y (j:Int)%rd (row p (j:Int)) (j:Int)by rw[Int.neg_mul,Int.mul_comm q];omega,Int.emod_eq_of_lt r0 (by omega)]
   exact r1
  ·
   obtain⟨a0,a1⟩:=h.ent j (by omega) (by omega)
   rw[Zcr (by omega),hP.zero j (by omega),Int.mul_zero,Int.add_zero,Int.one_mul,Int.emod_eq_of_lt a0 a1]
   exact h.lt j (by omega)
 ·
  by_cases e:j=k
  ·
   subst e;rw[Zdg (by omega)];omega
  ·
   rw[Zeo e];exact h.tbd j hj
 ·
  have e:j≠k:=fun e=>hr (e ▸ hn)
  rw[Zeo e];exact h.tnil j hn
 ·
  rw[Zjx,Zdg (by omega),Zkt k fun j hj=>Zeo (show j≠k by omega)]
  obtain⟨z,hz⟩:=hy i hi
  obtain⟨z', hz'⟩:=h.tak i hi
  refine⟨z' + z,?_⟩
  rw[Int.mul_add,←hz,←hz', Int.neg_mul]
  omega
theorem Least0.fin {m:Int} {W:Nat} {p:List (List Int)} {M:Vc→Prop} {x y t:List Int} (h:Least0 m W W p M x y t):Least m W p M x y:=⟨h.len,h.ent,h.dif,h.lt⟩
theorem rest_ {m:Int} (m2:2≤m) (m12:m≤12) {W:Nat} (hW:W≤100000) {p:List (List Int)} {M:Vc→Prop} (hM:Lead m W p M) {x:List Int} (hx:x.length=W) (ha:AllIn m x) :
  ∃y t,ZV.f m p x=some (y,t,m,p)∧Least0 m W W p M x y t:=by
 have hl:=hM.tab.len
 rw[ZV.f_eq,hl,Int.toNat_natCast]
 have key:∀k,k≤W→∃y t,ZV.l0 (W:Int) 0 m p x (List.replicate W 0)=ZV.l0 (W:Int) (k:Int) m p y t∧Least0 m W k p M x y t:=by
  intro k
  induction k with
  | zero=>exact fun _=>⟨_,_,rfl,Least0.begin hM hx ha⟩
  | succ k ih =>
   intro hk
   obtain⟨y,t,h1,h2⟩:=ih (by omega)
   have yl:=h2.len
   have tl:=h2.tlen
   by_cases hr:row p (k:Int)=[]
   ·
    have e0:(row p (k:Int)).length=0:=by rw[hr];rfl
    refine⟨y,t,?_,h2.skip (by omega) hr⟩
    rw[h1,ZV.l0_eq,wn (j:=k) (by omega)]
    ((with_reducible repeat (first|refine Zj (by first|assumption|omega|rfl|exact B_pos (by omega)) ?_|refine Zi (by first|assumption|omega|decide|exact B_not (by omega)) ?_|refine Za (by first|assumption) ?_|dsimp only));first|done|(with_reducible rfl)|simp (disch:=omega) only[w64]|(show False;done))
   ·
    have hP:=hM.tab.prow (show k < W by omega) hr
    have pl:=hP.len
    have p0:=hP.pos
    obtain⟨y0,y1⟩:=h2.ent k (by omega) (by omega)
    refine⟨_,_,?_,h2.take m2 m12 hM (by omega) hr⟩
    have hT:T p (k:Int) (k:Int)=rd (row p (k:Int)) (k:Int):=rfl
    have d0:0≤rd y (k:Int) / rd (row p (k:Int)) (k:Int):=Int.ediv_nonneg y0 (by omega)
    have d1:rd y (k:Int) / rd (row p (k:Int)) (k:Int)≤rd y (k:Int):=Int.ediv_le_self _ y0
    have e1:wrapI (Int.tdiv (rd y (k:Int)) (rd (row p (k:Int)) (k:Int)))=rd y (k:Int) / rd (row p (k:Int)) (k:Int):=by rw[ZeE y0];exact w64 (by omega) (by omega)
    have hne:¬ rd (row p (k:Int)) (k:Int)=0:=by omega
    have hsl:(t.set k (rd y (k:Int) / rd (row p (k:Int)) (k:Int))).length=W:=by rw[List.length_set];exact tl
    have hc:=combined m2 m12 (p:=p) (x:=1) (y := -(rd y (k:Int) / rd (row p (k:Int)) (k:Int))) h2.ent hP.ent (by omega) (by omega) (by omega) (by omega) (by omega) (by omega)
    have e2:wrapI (0 - rd y (k:Int) / rd (row p (k:Int)) (k:Int)) = -(rd y (k:Int) / rd (row p (k:Int)) (k:Int)):=by rw[w64 (by omega) (by omega)];omega
    rw[h1,ZV.l0_eq,wn (j:=k) (by omega),hT,e1,Int.toNat_natCast,Zdg (by omega),e2]
    ((with_reducible repeat (first|refine Zj (by first|assumption|omega|rfl|exact B_pos (by omega)) ?_|refine Zi (by first|assumption|omega|decide|exact B_not (by omega)) ?_|refine Za (by first|assumption) ?_|dsimp only));first|done|(with_reducible rfl)|simp (disch:=omega) only[w64]|(show False;done))
 obtain⟨y,t,h1,h2⟩:=key W (Nat.le_refl _)
 refine⟨y,t,?_,h2⟩
 (with_reducible repeat (first|refine Zj (by first|assumption|omega|rfl|exact B_pos (by omega)) ?_|refine Zi (by first|assumption|omega|decide|exact B_not (by omega)) ?_|refine Za (by first|assumption) ?_|dsimp only))
 rw[h1,ZV.l0_eq]
 ((with_reducible repeat (first|refine Zj (by first|assumption|omega|rfl|exact B_pos (by omega)) ?_|refine Zi (by first|assumption|omega|decide|exact B_not (by omega)) ?_|refine Za (by first|assumption) ?_|dsimp only));first|done|(with_reducible rfl)|simp (disch:=omega) only[w64]|(show False;done))
theorem ZlL (x:List Int) (h:x.length≤1000000):Zbk.f x=some x:=by
 rw[Zbk.f_eq,List.nil_append,show([]:List Int).length=0 from rfl]
 by_cases h0:x.length=0
 ·
  have:=List.eq_nil_of_length_eq_zero h0
  subst this
  ((with_reducible repeat (first|refine Zj (by first|assumption|omega|rfl|exact B_pos (by omega)) ?_|refine Zi (by first|assumption|omega|decide|exact B_not (by omega)) ?_|refine Za (by first|assumption) ?_|dsimp only));first|done|(with_reducible rfl)|simp (disch:=omega) only[w64]|(show False;done))
 ·
  ((with_reducible repeat (first|refine Zj (by first|assumption|omega|rfl|exact B_pos (by omega)) ?_|refine Zi (by first|assumption|omega|decide|exact B_not (by omega)) ?_|refine Za (by first|assumption) ?_|dsimp only));first|done|(with_reducible rfl)|simp (disch:=omega) only[w64]|(show False;done))
theorem ZkT {m:Int} (m2:2≤m) (m12:m≤12) {W:Nat} (hW:W≤100000) {p:List (List Int)} {M:Vc→Prop} (hM:Lead m W p M) (d:Int) {x:List Int} (hx:x.length=W) (ha:AllIn m x) :
  ∃y,ZaH.f m p d x=some (d,y,m,p)∧Least m W p M x y:=by
 obtain⟨y,t,h1,h2⟩:=rest_ m2 m12 hW hM hx ha
 have hc:=ZlL x (by omega)
 refine⟨y,?_,h2.fin⟩
 rw[ZaH.f_eq]
 ((with_reducible repeat (first|refine Zj (by first|assumption|omega|rfl|exact B_pos (by omega)) ?_|refine Zi (by first|assumption|omega|decide|exact B_not (by omega)) ?_|refine Za (by first|assumption) ?_|dsimp only));first|done|(with_reducible rfl)|simp (disch:=omega) only[w64]|(show False;done))
def Zr (x:List Int):Prop:=∀i:Int,0≤i→i < x.length→rd x i=0
theorem Zjt (x:List Int) (hl:x.length≤1000000):Zbh.f x=some (B (Zr x)):=by
 have hf:(fun z0=>(Zba.f z0).map fun z=>z)=(fun z0:Int=>some (!decide (z0=0))):=by
  funext z;rw[Zba.f_eq];rfl
 have hp:(fun z0=>(Zav.f z0).map fun z=>z)=(fun z0:Int=>some (!decide (z0=0))):=by
  funext z;rw[Zav.f_eq];rfl
 have hI:=indexFunc x hl
 rw[hp]at hI
 have hC:(fun z0=>((fun z0:Int=>some (!decide (z0=0))) z0).map fun z=>z)=(fun z0:Int=>some (!decide (z0=0))):=rfl
 rw[Zbh.f_eq,hf,Zz.f_eq,hC]
 rcases hI with ⟨hz,h⟩|⟨j,hj,_,hne,h⟩
 ·
  rw[h,B_pos (show Zr x from fun i i0 i1=>by
   obtain⟨n,rfl⟩:=Int.eq_ofNat_of_zero_le i0
   exact hz n (by omega))]
  rfl
 ·
  rw[h,B_neg (show ¬ Zr x from fun k=>hne (k j (by omega) (by omega)))]
  simp
theorem Least.zero_iff {m:Int} (m0:0 < m) {W:Nat} {p:List (List Int)} {M:Vc→Prop} (hM:Lead m W p M) {x y:List Int} (h:Least m W p M x y):Zr y↔M (V x):=by
 have yl:=h.len
 constructor
 ·
  intro hz
  refine hM.sub.alike _ _ h.dif fun i hi => ?_
  rw[hz i (by omega) (by omega)]
  exact Zbz (by simp[V])
 ·
  intro hx
  have hz:Least m W p M x (List.replicate W 0):=⟨List.length_replicate,Ze5 m0 W,hM.sub.alike _ _ hx fun i hi=>Zbz (by rw[Zb5];simp[V]),fun j hj=>by rw[Zb5];exact(dv_bd m0 hM.tab hj).1⟩
  rw[h.same m0 hM hM hz]
  exact fun i _ _=>Zb5 _ _
end Go.Proofs.YthmcpmnhdbeahaaGreat.V
namespace Go.Proofs.YthmcpmnhdbeahaaGreat.V
open Go.RowKit Go.Proofs.YthmcpmnhdbeahaaGreat.D Go.Proofs.YthmcpmnhdbeahaaGreat.P
theorem Zjs {g:List (List Int)} (hg:Grp g) {k:Nat} (hk:k≤4):Za3.f g (k:Int)=some (B (nB g k≤49)):=by
 obtain⟨b1,b2⟩:=nA_bd hg hk
 have hc:=ZeK hg (d:=(k:Int)) (by omega) (by omega)
 rw[Za3.f_eq,hc,Option.bind_some,←b2,ZeW,ZbT (show((nB g k:Nat):Int)≤49↔nB g k≤49 by omega)]
theorem Co.nB {g:List (List Int)} (hg:Grp g) {m:Int} {k:Nat} {v:List Int} (h:Co g m k v):v.length=nB g k:=by
 have:=h.2.1
 have hk:=h.1.2
 obtain⟨b1,b2⟩:=nA_bd hg (e:=k) (by omega)
 omega
theorem Zhz {g:List (List Int)} (hg:Grp g) {m:Int} {u:List Int} (hm:Mdl g m u) {k:Nat} {v:List Int} (hc:Co g m k v):ZaQ.f g m u (k:Int) v=some (B (Sp m (nB g k) (bdG g m u k) (V v))):=by
 have m2:=hm.m2;have m12:=hm.m12
 have hk:=hc.1.2
 obtain⟨b1,b2⟩:=nA_bd hg (e:=k) (by omega)
 obtain⟨p,h1,h2⟩:=Zis hg hm (n:=k) (by omega)
 have h3:=h2.lead (by omega)
 obtain⟨y,h4,h5⟩:=ZkT m2 m12 (by omega) h3 (k:Int) (hc.nB hg) hc.2.2
 have yl:=h5.len
 have h6:=Zjt y (by omega)
 rw[ZbT (h5.zero_iff (by omega) h3)]at h6
 rw[ZaQ.f_eq]
 (with_reducible repeat (first|refine Zj (by first|assumption|omega|rfl|exact B_pos (by omega)) ?_|refine Zi (by first|assumption|omega|decide|exact B_not (by omega)) ?_|refine Za (by first|assumption) ?_|dsimp only))
 simp
def addL (m:Int) (v w:List Int) (c:Int):List Int:=(List.range v.length).map fun i:Nat=>(rd v (i:Int)+c*rd w (i:Int))%m
theorem ZcD (m:Int) (v w:List Int) (c:Int):(addL m v w c).length=v.length:=by simp[addL]
theorem ZiT {m:Int} {v w:List Int} {c:Int} {i:Nat} (h:i < v.length):rd (addL m v w c) (i:Int)=(rd v (i:Int)+c*rd w (i:Int))%m:=by
 rw[Zb3 (by rw[ZcD];exact h)];simp[addL]
theorem Zk8 {m:Int} (m0:0 < m) (v w:List Int) (c:Int):AllIn m (addL m v w c):=ZbX fun x hx=>by
 obtain⟨i,_,rfl⟩:=List.mem_map.1 hx
 exact⟨Int.emod_nonneg _ (by omega),Int.emod_lt_of_pos _ m0⟩
theorem ZlH {m a b c:Int} (m12:m≤12) (a0:0≤a) (a1:a < m) (b0:0≤b) (b1:b < m) (c0 : -1000≤c) (c1:c≤1000):wrapI (a+wrapI (c*b))=a+c*b ∧ -13000≤a+c*b∧a+c*b≤13000:=by
 have:=ZeQ (x:=c) (a:=b) (B:=1000) c0 c1 b0 b1 m12 (by omega)
 rw[w64 (x:=c*b) (by omega) (by omega),w64 (by omega) (by omega)]
 omega
theorem ZlI {m:Int} (m2:2≤m) (m12:m≤12) (d e:Int) {v w:List Int} (hl:w.length=v.length) (hv:AllIn m v) (hw:AllIn m w) (hL:v.length≤1000000) {c:Int} (c0 : -1000≤c) (c1:c≤1000) :
  Za4.f m d v e w c=some (d,addL m v w c):=by
 have l2:∀x:Int,([x]:List Int).length=1:=fun _=>rfl
 rw[Za4.f_eq]
 have loop:=up v.length (fun i=>Za4.l0 m c v (v.length:Int) (i:Int) e w 0 d [] ((addL m v w c).take i)) (fun i hi=>by
  obtain⟨a0,a1⟩:=hv i (by omega) (by omega)
  obtain⟨b0,b1⟩:=hw i (by omega) (by omega)
  obtain⟨e1,_,_⟩:=ZlH m12 a0 a1 b0 b1 c0 c1
  have e2:=ZjD (a:=rd v (i:Int)+c*rd w (i:Int)) (m:=m) (by omega) (by omega)
  have tl:((addL m v w c).take i).length=i:=by rw[List.length_take,ZcD];omega
  rw[Zcx (by rw[ZcD];exact hi),ZiT hi,Za4.l0_eq,wn (j:=i) (by omega),e1,e2]
  (with_reducible repeat (first|refine Zj (by first|assumption|omega|rfl|exact B_pos (by omega)) ?_|refine Zi (by first|assumption|omega|decide|exact B_not (by omega)) ?_|refine Za (by first|assumption) ?_|dsimp only))
  rw[l2]
  ((with_reducible repeat (first|refine Zj (by first|assumption|omega|rfl|exact B_pos (by omega)) ?_|refine Zi (by first|assumption|omega|decide|exact B_not (by omega)) ?_|refine Za (by first|assumption) ?_|dsimp only));first|done|(with_reducible rfl)|simp (disch:=omega) only[w64]|(show False;done)))
 simp only[Int.natCast_zero,List.take_zero]at loop
 rw[List.take_of_length_le (by rw[ZcD];exact Nat.le_refl _)]at loop
 rw[loop,Za4.l0_eq]
 ((with_reducible repeat (first|refine Zj (by first|assumption|omega|rfl|exact B_pos (by omega)) ?_|refine Zi (by first|assumption|omega|decide|exact B_not (by omega)) ?_|refine Za (by first|assumption) ?_|dsimp only));first|done|(with_reducible rfl)|simp (disch:=omega) only[w64]|(show False;done))
end Go.Proofs.YthmcpmnhdbeahaaGreat.V
