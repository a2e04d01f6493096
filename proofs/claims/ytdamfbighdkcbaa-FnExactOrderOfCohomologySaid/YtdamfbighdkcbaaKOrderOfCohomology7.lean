/- What the proof of the law OrderOfCohomology stands on, part 7: words, each Go function's Lean function, and that the Go code comes to its answers; no condition. (Packed by wip/myprint/pack.py out of what the kit's printer wrote, its words among it, partly by our patches of it, and out of texts of this session.) -/
import Derived.Test.YtdamfbighdkcbaaKOrderOfCohomology3
import Derived.Test.YtdamfbighdkcbaaKOrderOfCohomology4
import Derived.Test.YtdamfbighdkcbaaKOrderOfCohomology5
import Derived.Test.YtdamfbighdkcbaaKOrderOfCohomology6
set_option linter.unusedVariables false
set_option linter.unusedSimpArgs false
set_option maxHeartbeats 4000000
set_option maxRecDepth 20000
namespace Go.Proofs.Ytdamfbighdkcbaa.V
open Go.RowKit Go.Proofs.Ytdamfbighdkcbaa.D Go.Proofs.Ytdamfbighdkcbaa.P
theorem Zjq {d x g s t:Int} (h:s*d+t*x=g) (g0:0 < g) (gd:g∣d) (gx:g∣x):∃a b,d=g*a∧x=g*b∧s*a+t*b=1∧d / g=a∧x / g=b:=by
 obtain⟨a,ha⟩:=gd
 obtain⟨b,hb⟩:=gx
 refine⟨a,b,ha,hb,Int.eq_of_mul_eq_mul_left (show g≠0 by omega) ?_,by rw[ha];exact Int.mul_ediv_cancel_left _ (by omega),by rw[hb];exact Int.mul_ediv_cancel_left _ (by omega)⟩
 rw[Int.mul_add,Int.mul_one,Int.mul_left_comm g s,Int.mul_left_comm g t,←ha,←hb,h]
theorem w_div {x g:Int} (x0:0≤x) (x1:x≤1000000) (g0:0 < g):wrapI (Int.tdiv x g)=x / g∧0≤x / g∧x / g≤x:=by
 have d0:0≤x / g:=Int.ediv_nonneg x0 (by omega)
 have d1:x / g≤x:=Int.ediv_le_self _ x0
 rw[Zf4 x0]
 exact⟨w64 (by omega) (by omega),d0,d1⟩
structure CI (m:Int) (W n:Nat) (X r:List (List Int)):Prop where
 len:r.length=n
 ok:Rok m W r
 eqd:Eqd m W (Mx m W X) (Mx m W r)
 pos:0 < T r 0 0
 dvd:T r 0 0∣m
def fst0 (r:List (List Int)):List Int:=row r ((0:Nat):Int)
section
variable {m:Int} {W n:Nat} {X:List (List Int)}
theorem CI.lt {r:List (List Int)} (h:CI m W n X r) (n0:0 < n) (W0:0 < W):T r 0 0 < m:=(h.ok.bd (i:=0) (k:=0) (by have:=h.len;omega) W0).2
theorem Tn (r:List (List Int)) (i k:Nat):T r (i:Int) (k:Int)=rd (row r (i:Int)) (k:Int):=rfl
theorem T0 (r:List (List Int)) (k:Int):T r 0 k=rd (fst0 r) k:=rfl
theorem Ti (r:List (List Int)) (i:Int):T r i 0=rd (row r i) ((0:Nat):Int):=rfl
theorem ZiQ (m2:2≤m) (m12:m≤12) (W0:0 < W) (hW:W≤1000) (hn:n≤100000) {row0:List Int}:∀(c i:Nat) (r:List (List Int)),i+c=n→1≤i→CI m W n X r→(T r 0 0 < rd row0 0∨(fst0 r=row0∧∀k:Nat,1≤k→k < i→T r (k:Int) 0=0)) →
  ∃r', Ze.l2 (W:Int) m false (i:Int) r=Ze.l3 (W:Int) m false 1 r' ∧ CI m W n X r' ∧ (T r' 0 0 < rd row0 0∨(fst0 r' = row0∧∀k:Nat,1≤k→k < n→T r' (k:Int) 0=0)):=by
 intro c
 induction c with
 | zero =>
  intro i r hi h1 hC hD
  have hl:=hC.len
  have:i=n:=by omega
  subst this
  refine⟨r,?_,hC,hD⟩
  rw[Ze.l2_eq]
  ((with_reducible repeat (first|refine Zi (by first|assumption|omega|rfl|exact B_pos (by omega)) ?_|refine Zh (by first|assumption|omega|decide|exact B_not (by omega)) ?_|refine Zf (by first|assumption) ?_|dsimp only));first|done|(with_reducible rfl)|simp (disch:=omega) only[w64]|(show False;done))
 | succ c ih =>
  intro i r hi h1 hC hD
  have hl:=hC.len
  have dp:=hC.pos
  have dm:=hC.lt (by omega) W0
  obtain⟨l0,a0⟩:=hC.ok 0 (by omega)
  obtain⟨li,ai⟩:=hC.ok i (by omega)
  have l0' : (row r 0).length=W:=l0
  obtain⟨x0,x1⟩:=hC.ok.bd (i:=i) (k:=0) (by omega) W0
  obtain⟨d,hd⟩:∃d,d=T r 0 0:=⟨_,rfl⟩
  obtain⟨x,hx⟩:∃x,x=T r (i:Int) 0:=⟨_,rfl⟩
  have x0:0≤x:=by rw[hx];exact x0
  have x1:x < m:=by rw[hx];exact x1
  have hs0:r.set (0:Int).toNat (row r 0)=r:=Zc5 r 0
  have hsi:r.set (i:Int).toNat (row r (i:Int))=r:=by rw[Int.toNat_natCast];exact Zc5 r i
  have t0:(0:Int).toNat=0:=rfl
  have h0i:row r 0=row r ((0:Nat):Int):=rfl
  rw[Ze.l2_eq,wn (j:=i) (by omega)]
  simp only[hs0,hsi,←hd,←hx]
  rw[←hd]at dp dm
  have hdd:d∣m:=by rw[hd];exact hC.dvd
  by_cases hxd:Int.tmod x d=0
  ·
   obtain⟨e1,e2,e3⟩:=w_div x0 (by omega) dp
   have e4:wrapI (0 - x / d) = -(x / d):=by rw[w64 (by omega) (by omega)];omega
   have hM:=Mix_ m2 m12 (x:=1) (y := -(x / d)) ai a0 (by omega) (by omega) (by omega) (by omega) (by omega) (by omega)
   have hM:ZA.f (row r (i:Int)) (row r 0) 1 (-(x / d)) m=some (mix m 1 (row r (i:Int)) (-(x / d)) (row r ((0:Nat):Int))):=hM
   obtain⟨r', hr'⟩:∃r', r' = r.set i (mix m 1 (row r (i:Int)) (-(x / d)) (row r ((0:Nat):Int))):=⟨_,rfl⟩
   have hf:fst0 r' = fst0 r:=by rw[hr'];exact ZaT (by omega)
   have hT:T r' 0 0=d:=by rw[T0,hf,hd];rfl
   have hC' : CI m W n X r' := ⟨by rw[hr', List.length_set];exact hl,by rw[hr'];exact hC.ok.set ⟨by rw[ZaS];exact li,ZbR (by omega)⟩,hC.eqd.trans (by rw[hr'];exact Zl7 (by omega) hC.ok (by omega) (by omega) (by omega) _),by rw[hT];exact dp,by rw[hT];exact hdd⟩
   obtain ⟨r2,k1,k2,k3⟩:=ih (i+1) r' (by omega) (by omega) hC' (by
    rcases hD with hD|⟨hD1,hD2⟩
    ·
     left;rw[hT,hd];exact hD
    ·
     refine .inr ⟨by rw[hf];exact hD1,fun k hk1 hk2 => ?_⟩
     rw[Ti,hr']
     by_cases e:k=i
     ·
      subst e
      rw[ZaN (by omega),ZbE (by omega)]
      rw[Ti]at hx
      rw[←hx,show rd (row r ((0:Nat):Int)) ((0:Nat):Int)=d from hd.symm,Int.neg_mul,Int.one_mul,Int.ediv_mul_cancel (ZbT.1 hxd),show x + -x=0 by omega]
      rfl
     ·
      rw[ZaT e];exact hD2 k hk1 (by omega))
   refine⟨r2,?_,k2,k3⟩
   rw[e1,e4,Int.toNat_natCast,←k1,hr']
   ((with_reducible repeat (first|refine Zi (by first|assumption|omega|rfl|exact B_pos (by omega)) ?_|refine Zh (by first|assumption|omega|decide|exact B_not (by omega)) ?_|refine Zf (by first|assumption) ?_|dsimp only));first|done|(with_reducible rfl)|simp (disch:=omega) only[w64]|(show False;done))
  ·
   obtain⟨s,t,h1', h2', h3', h4'⟩:=ZgX (a:=d) (b:=x) (by omega) (by omega) x0 (by omega)
   obtain⟨g,hg⟩:∃g,g=((Int.gcd d x:Nat):Int):=⟨_,rfl⟩
   rw[←hg]at h1' h2'
   have gd:g∣d:=by rw[hg];exact Int.gcd_dvd_left ..
   have gx:g∣x:=by rw[hg];exact Int.gcd_dvd_right ..
   have g0:0 < g:=by rw[hg];exact_mod_cast Int.gcd_pos_of_ne_zero_left x (by omega)
   have gld:g < d:=by
    have:=Int.le_of_dvd dp gd
    rcases Int.lt_or_eq_of_le this with h|h
    ·
     exact h
    ·
     exact absurd (ZbT.2 (h ▸ gx)) hxd
   obtain⟨a,b,ha,hb,hab,hda,hxb⟩:=Zjq h2' g0 gd gx
   obtain⟨e1,e2,e3⟩:=w_div x0 (by omega) g0
   obtain⟨f1,f2,f3⟩:=w_div (x:=d) (by omega) (by omega) g0
   rw[hxb]at e1 e2 e3
   rw[hda]at f1 f2 f3
   have e4:wrapI (0 - a) = -a:=by rw[w64 (by omega) (by omega)];omega
   have hM1:=Mix_ m2 m12 (x:=s) (y:=t) a0 ai (by omega) (by omega) (by omega) (by omega) (by omega) (by omega)
   have hM1:ZA.f (row r 0) (row r (i:Int)) s t m=some (mix m s (row r ((0:Nat):Int)) t (row r (i:Int))):=hM1
   have hM2:=Mix_ m2 m12 (x:=b) (y := -a) a0 ai (by omega) (by omega) (by omega) (by omega) (by omega) (by omega)
   have hM2:ZA.f (row r 0) (row r (i:Int)) b (-a) m=some (mix m b (row r ((0:Nat):Int)) (-a) (row r (i:Int))):=hM2
   obtain⟨r', hr'⟩:∃r', r' = (r.set i (mix m b (row r ((0:Nat):Int)) (-a) (row r (i:Int)))).set 0 (mix m s (row r ((0:Nat):Int)) t (row r (i:Int))):=⟨_,rfl⟩
   have hT:T r' 0 0=g:=by
    show rd (row r' ((0:Nat):Int)) ((0:Nat):Int)=g
    rw[hr', ZaN (by rw[List.length_set];omega),ZbE (by omega),show rd (row r ((0:Nat):Int)) ((0:Nat):Int)=d from hd.symm,show rd (row r (i:Int)) ((0:Nat):Int)=x from hx.symm,h2']
    exact Int.emod_eq_of_lt (by omega) (by omega)
   have hC' : CI m W n X r' := ⟨by rw[hr', List.length_set,List.length_set];exact hl,by rw[hr'];exact(hC.ok.set ⟨by rw[ZaS];exact l0,ZbR (by omega)⟩).set ⟨by rw[ZaS];exact l0,ZbR (by omega)⟩,
    hC.eqd.trans (by
     rw[hr']
     refine Zk1 (by omega) hC.ok (by omega) (by omega) (show 0≠i by omega) (p' := a) (q' := t) (s' := b) (t' := -s) ?_ ?_ ?_ ?_
     ·
      rw[Int.mul_comm a s];exact hab
     ·
      rw[Int.mul_neg,Int.mul_comm a t];omega
     ·
      rw[Int.neg_mul,Int.mul_comm b s];omega
     ·
      rw[Int.neg_mul_neg,Int.mul_comm b t];omega),by rw[hT];exact g0,by rw[hT];exact Int.dvd_trans gd hdd⟩
   have hTd:T r 0 0≤rd row0 0:=by
    rcases hD with hD|⟨hD1,_⟩
    ·
     omega
    ·
     rw[T0,hD1];exact Int.le_refl _
   obtain⟨r2,k1,k2,k3⟩:=ih (i+1) r' (by omega) (by omega) hC' (.inl (by rw[hT];omega))
   refine⟨r2,?_,k2,k3⟩
   rw[h1']
   simp only[Option.bind_some]
   rw[e1,f1,e4,Int.toNat_natCast,←k1,hr']
   have gne:¬ g=0:=by omega
   have hs2:∀C,(r.set i C).set (0:Int).toNat (row r 0)=r.set i C:=fun C=>by
    have:=Zc5 (r.set i C) 0
    rwa[ZaT (show 0≠i by omega)]at this
   (with_reducible repeat (first|refine Zi (by first|assumption|omega|rfl|exact B_pos (by omega)) ?_|refine Zh (by first|assumption|omega|decide|exact B_not (by omega)) ?_|refine Zf (by first|assumption) ?_|dsimp only))
   simp only[hs2,List.length_set]
   (with_reducible repeat (first|refine Zi (by first|assumption|omega|rfl|exact B_pos (by omega)) ?_|refine Zh (by first|assumption|omega|decide|exact B_not (by omega)) ?_|refine Zf (by first|assumption) ?_|dsimp only))
   rfl
theorem ZiN (m2:2≤m) (m12:m≤12) (W0:0 < W) (hW:W≤1000) (n0:0 < n) (hn:n≤100000) {rs:List (List Int)} {d1:Int}:∀(c k:Nat) (r:List (List Int)) (flag:Bool),k+c=W→1≤k→CI m W n X r→(∀j:Nat,1≤j→j < k→T r 0 (j:Int)=0)→T r 0 0≤d1→((∀j:Nat,1≤j→j < W→T rs 0 (j:Int)=0)→r=rs∧flag=false) →
  ∃r' flag', Ze.l3 (W:Int) m flag (k:Int) r=Ze.l5 (W:Int) m flag' 1 r' ∧ CI m W n X r' ∧ (∀j:Nat,1≤j→j < W→T r' 0 (j:Int)=0)∧T r' 0 0≤d1∧((∀j:Nat,1≤j→j < W→T rs 0 (j:Int)=0)→r' = rs∧flag' = false):=by
 intro c
 induction c with
 | zero =>
  intro k r flag hk h1 hC hz hd1 hcl
  have:k=W:=by omega
  subst this
  refine⟨r,flag,?_,hC,hz,hd1,hcl⟩
  rw[Ze.l3_eq]
  ((with_reducible repeat (first|refine Zi (by first|assumption|omega|rfl|exact B_pos (by omega)) ?_|refine Zh (by first|assumption|omega|decide|exact B_not (by omega)) ?_|refine Zf (by first|assumption) ?_|dsimp only));first|done|(with_reducible rfl)|simp (disch:=omega) only[w64]|(show False;done))
 | succ c ih =>
  intro k r flag hk h1 hC hz hd1 hcl
  have hl:=hC.len
  have dp:=hC.pos
  have dm:=hC.lt n0 W0
  obtain⟨l0,a0⟩:=hC.ok 0 (by omega)
  have l0' : (row r 0).length=W:=l0
  obtain⟨x0,x1⟩:=hC.ok.bd (i:=0) (k:=k) (by omega) (by omega)
  obtain⟨d,hd⟩:∃d,d=T r 0 0:=⟨_,rfl⟩
  obtain⟨x,hx⟩:∃x,x=T r 0 (k:Int):=⟨_,rfl⟩
  have x0:0≤x:=by rw[hx];exact x0
  have x1:x < m:=by rw[hx];exact x1
  have hs0:r.set (0:Int).toNat (row r 0)=r:=Zc5 r 0
  rw[Ze.l3_eq,wn (j:=k) (by omega)]
  simp only[hs0,←hd,←hx]
  rw[←hd]at dp dm hd1
  have hdd:d∣m:=by rw[hd];exact hC.dvd
  by_cases hx0:x=0
  ·
   obtain⟨r', flag', k1,k2⟩:=ih (k+1) r flag (by omega) (by omega) hC (fun j j1 j2=>by
    by_cases e:j=k
    ·
     rw[e,←hx];exact hx0
    ·
     exact hz j j1 (by omega)) (by rw[←hd];exact hd1) hcl
   refine⟨r', flag', ?_,k2⟩
   rw[←k1]
   ((with_reducible repeat (first|refine Zi (by first|assumption|omega|rfl|exact B_pos (by omega)) ?_|refine Zh (by first|assumption|omega|decide|exact B_not (by omega)) ?_|refine Zf (by first|assumption) ?_|dsimp only));first|done|(with_reducible rfl)|simp (disch:=omega) only[w64]|(show False;done))
  ·
   obtain⟨s,t,h1', h2', h3', h4'⟩:=ZgX (a:=d) (b:=x) (by omega) (by omega) x0 (by omega)
   obtain⟨g,hg⟩:∃g,g=((Int.gcd d x:Nat):Int):=⟨_,rfl⟩
   rw[←hg]at h1' h2'
   have gd:g∣d:=by rw[hg];exact Int.gcd_dvd_left ..
   have gx:g∣x:=by rw[hg];exact Int.gcd_dvd_right ..
   have g0:0 < g:=by rw[hg];exact_mod_cast Int.gcd_pos_of_ne_zero_left x (by omega)
   have gld:g≤d:=Int.le_of_dvd dp gd
   obtain⟨a,b,ha,hb,hab,hda,hxb⟩:=Zjq h2' g0 gd gx
   obtain⟨e1,e2,e3⟩:=w_div x0 (by omega) g0
   obtain⟨f1,f2,f3⟩:=w_div (x:=d) (by omega) (by omega) g0
   rw[hxb]at e1 e2 e3
   rw[hda]at f1 f2 f3
   have gne:¬ g=0:=by omega
   have four:∀F:Bool,Ze.l4 (W:Int) m F (k:Int) d x g s t 0 r=Ze.l3 (W:Int) m F ((k+1:Nat):Int) (r.map (colf m k s t b (-a))):=fun F=>by
    have loop:=up n (fun j=>Ze.l4 (W:Int) m F (k:Int) d x g s t (j:Int) (updR (colf m k s t b (-a)) r j)) (fun j hj=>by
     obtain⟨lj,aj⟩:=hC.ok j (by omega)
     have ul:=ZiF (colf m k s t b (-a)) r j
     have ur:=Zlf (colf m k s t b (-a)) r (j:=j) (by omega)
     obtain⟨p0,p1⟩:=hC.ok.bd (i:=j) (k:=0) (by omega) W0
     obtain⟨q0,q1⟩:=hC.ok.bd (i:=j) (k:=k) (by omega) (by omega)
     obtain⟨p,hp⟩:∃p,p=rd (row r (j:Int)) ((0:Nat):Int):=⟨_,rfl⟩
     obtain⟨q,hq⟩:∃q,q=rd (row r (j:Int)) (k:Int):=⟨_,rfl⟩
     rw[←hp]at p0 p1
     rw[←hq]at q0 q1
     have tp:T (updR (colf m k s t b (-a)) r j) (j:Int) 0=p:=by rw[Ti,ur,hp]
     have tq:T (updR (colf m k s t b (-a)) r j) (j:Int) (k:Int)=q:=by rw[Tn,ur,hq]
     have b1:=ZcR (x:=s) (B:=100000000000000) (a:=p) (m:=m) (by omega) (by omega) p0 p1 m12 (by omega)
     have b2:=ZcR (x:=t) (B:=100000000000000) (a:=q) (m:=m) (by omega) (by omega) q0 q1 m12 (by omega)
     have b3:=ZcR (x:=b) (B:=12) (a:=p) (m:=m) (by omega) (by omega) p0 p1 m12 (by omega)
     have b4:=ZcR (x:=a) (B:=12) (a:=q) (m:=m) (by omega) (by omega) q0 q1 m12 (by omega)
     have m1:=ModW (a:=s*p+t*q) (m:=m) (by omega) (by omega) (by omega) (by omega)
     have m2' := ModW (a:=b*p - a*q) (m:=m) (by omega) (by omega) (by omega) (by omega)
     have w1:wrapI (wrapI (s*p)+wrapI (t*q))=s*p+t*q:=by rw[w64 (x:=s*p) (by omega) (by omega),w64 (x:=t*q) (by omega) (by omega),w64 (by omega) (by omega)]
     have w2:wrapI (wrapI (b*p) - wrapI (a*q))=b*p - a*q:=by rw[w64 (x:=b*p) (by omega) (by omega),w64 (x:=a*q) (by omega) (by omega),w64 (by omega) (by omega)]
     have hcf:((row r (j:Int)).set (0:Int).toNat ((s*p+t*q)%m)).set k ((b*p - a*q)%m)=colf m k s t b (-a) (row r (j:Int)):=by
      rw[colf,Int.neg_mul,←hq]
      rw[show rd (row r (j:Int)) 0=p from hp.symm]
      rfl
     have sl:((row r (j:Int)).set (0:Int).toNat ((s*p+t*q)%m)).length=W:=by rw[List.length_set];exact lj
     rw[Ze.l4_eq,wn (j:=j) (by omega),tp,tq,ur,e1,f1,w1,w2,←Zkp _ _ (show j < r.length by omega),Int.toNat_natCast,Int.toNat_natCast,←hcf]
     ((with_reducible repeat (first|refine Zi (by first|assumption|omega|rfl|exact B_pos (by omega)) ?_|refine Zh (by first|assumption|omega|decide|exact B_not (by omega)) ?_|refine Zf (by first|assumption) ?_|dsimp only));first|done|(with_reducible rfl)|simp (disch:=omega) only[w64]|(show False;done)))
    rw[show(updR (colf m k s t b (-a)) r n)=r.map (colf m k s t b (-a))by rw[←hl];exact Zle _ _,Zkq]at loop
    refine Eq.trans loop ?_
    have ml:(r.map (colf m k s t b (-a))).length=n:=by rw[List.length_map];exact hl
    rw[Ze.l4_eq,wn (j:=k) (by omega)]
    ((with_reducible repeat (first|refine Zi (by first|assumption|omega|rfl|exact B_pos (by omega)) ?_|refine Zh (by first|assumption|omega|decide|exact B_not (by omega)) ?_|refine Zf (by first|assumption) ?_|dsimp only));first|done|(with_reducible rfl)|simp (disch:=omega) only[w64]|(show False;done))
   obtain⟨r', hr'⟩:∃r', r' = r.map (colf m k s t b (-a)):=⟨_,rfl⟩
   have row0:row r' ((0:Nat):Int)=colf m k s t b (-a) (row r ((0:Nat):Int)):=by rw[hr'];exact Zdl _ _ (by omega)
   have tz:∀j:Nat,T r' 0 (j:Int)=if j=0 then g else if j=k then 0 else T r 0 (j:Int):=fun j=>by
    show rd (row r' ((0:Nat):Int)) (j:Int)=_
    rw[row0,Zjt (by omega) (by omega)]
    rw[show rd (row r ((0:Nat):Int)) 0=d from hd.symm,show rd (row r ((0:Nat):Int)) (k:Int)=x from hx.symm]
    split
    ·
     rw[h2'];exact Int.emod_eq_of_lt (by omega) (by omega)
    ·
     split
     ·
      rw[ha,hb,Int.neg_mul,Int.mul_left_comm b g a,Int.mul_left_comm a g b,Int.mul_comm b a,show ∀z:Int,z + -z=0 from fun z=>by omega]
      rfl
     ·
      rfl
   have hT:T r' 0 0=g:=tz 0
   have hC' : CI m W n X r' := ⟨by rw[hr', List.length_map];exact hl,by rw[hr'];exact hC.ok.colf (by omega) _ _ _ _ _,hC.eqd.trans (by
     rw[hr']
     refine ZkC (by omega) hC.ok (by omega) (by omega) (p' := a) (q' := t) (s' := b) (t' := -s) ?_ ?_ ?_ ?_ ?_ ?_ ?_ ?_
     ·
      rw[Int.mul_comm a s];exact hab
     ·
      rw[Int.mul_neg,Int.mul_comm a t];omega
     ·
      rw[Int.neg_mul,Int.mul_comm b s];omega
     ·
      rw[Int.neg_mul_neg,Int.mul_comm b t];omega
     ·
      exact hab
     ·
      rw[Int.mul_neg,Int.mul_comm s t];omega
     ·
      rw[Int.neg_mul,Int.mul_comm b a];omega
     ·
      rw[Int.neg_mul_neg,Int.mul_comm b t,Int.mul_comm a s];omega),by rw[hT];exact g0,by rw[hT];exact Int.dvd_trans gd hdd⟩
   have hF:∀F:Bool,∃r2 flag', Ze.l4 (W:Int) m F (k:Int) d x g s t 0 r=Ze.l5 (W:Int) m flag' 1 r2∧CI m W n X r2∧(∀j:Nat,1≤j→j < W→T r2 0 (j:Int)=0)∧T r2 0 0≤d1∧((∀j:Nat,1≤j→j < W→T rs 0 (j:Int)=0)→r2=rs∧flag' = false):=fun F=>by
    obtain⟨r2,flag', k1,k2⟩:=ih (k+1) r' F (by omega) (by omega) hC' (fun j j1 j2=>by
     rw[tz]
     by_cases e:j=k
     ·
      rw[if_neg (by omega),if_pos e]
     ·
      rw[if_neg (by omega),if_neg e];exact hz j j1 (by omega)) (by rw[hT];omega) (fun hcl' => by
     exfalso
     obtain⟨e,_⟩:=hcl hcl'
     exact hx0 (by rw[hx,e];exact hcl' k h1 (by omega)))
    exact⟨r2,flag', by rw[four F,←hr', k1],k2⟩
   cases flag with
   | true =>
    obtain⟨r2,flag', k1,k2⟩:=hF true
    refine⟨r2,flag', ?_,k2⟩
    rw[←k1]
    have tt:true=true:=rfl
    ((with_reducible repeat (first|refine Zi (by first|assumption|omega|rfl|exact B_pos (by omega)) ?_|refine Zh (by first|assumption|omega|decide|exact B_not (by omega)) ?_|refine Zf (by first|assumption) ?_|dsimp only));first|done|(with_reducible rfl)|simp (disch:=omega) only[w64]|(show False;done))
   | false =>
    obtain⟨r2,flag', k1,k2⟩:=hF (!decide (Int.tmod x d=0))
    refine⟨r2,flag', ?_,k2⟩
    rw[←k1]
    have ff:¬ false=true:=Bool.false_ne_true
    have dne:¬ d=0:=by omega
    ((with_reducible repeat (first|refine Zi (by first|assumption|omega|rfl|exact B_pos (by omega)) ?_|refine Zh (by first|assumption|omega|decide|exact B_not (by omega)) ?_|refine Zf (by first|assumption) ?_|dsimp only));first|done|(with_reducible rfl)|simp (disch:=omega) only[w64]|(show False;done))
theorem ZiO (hn:n≤100000) (W0:0 < W) {r:List (List Int)} (hC:CI m W n X r):∀(c i:Nat) (flag:Bool),i+c=n→1≤i→∃flag', Ze.l5 (W:Int) m flag (i:Int) r=Ze.l1 (W:Int) m flag' r∧(flag' = false→flag=false∧∀k:Nat,i≤k→k < n→T r (k:Int) 0=0)∧(flag=false→(∀k:Nat,i≤k→k < n→T r (k:Int) 0=0)→flag' = false):=by
 intro c
 have hl:=hC.len
 induction c with
 | zero =>
  intro i flag hi h1
  refine⟨flag,?_,fun h=>⟨h,fun k k1 k2=>by omega⟩,fun h _=>h⟩
  rw[Ze.l5_eq]
  ((with_reducible repeat (first|refine Zi (by first|assumption|omega|rfl|exact B_pos (by omega)) ?_|refine Zh (by first|assumption|omega|decide|exact B_not (by omega)) ?_|refine Zf (by first|assumption) ?_|dsimp only));first|done|(with_reducible rfl)|simp (disch:=omega) only[w64]|(show False;done))
 | succ c ih =>
  intro i flag hi h1
  obtain⟨li,ai⟩:=hC.ok i (by omega)
  have hsi:r.set (i:Int).toNat (row r (i:Int))=r:=by rw[Int.toNat_natCast];exact Zc5 r i
  rw[Ze.l5_eq,wn (j:=i) (by omega)]
  simp only[hsi]
  cases flag with
  | true =>
   obtain⟨f,k1,k2,k3⟩:=ih (i+1) true (by omega) (by omega)
   refine⟨f,?_,fun h => ?_,fun h=>by cases h⟩
   ·
    rw[←k1]
    have tt:true=true:=rfl
    ((with_reducible repeat (first|refine Zi (by first|assumption|omega|rfl|exact B_pos (by omega)) ?_|refine Zh (by first|assumption|omega|decide|exact B_not (by omega)) ?_|refine Zf (by first|assumption) ?_|dsimp only));first|done|(with_reducible rfl)|simp (disch:=omega) only[w64]|(show False;done))
   ·
    cases(k2 h).1
  | false =>
   obtain⟨f,k1,k2,k3⟩:=ih (i+1) (!decide (T r (i:Int) 0=0)) (by omega) (by omega)
   have ff:¬ false=true:=Bool.false_ne_true
   refine⟨f,?_,fun h => ?_,fun _ h => ?_⟩
   ·
    rw[←k1]
    ((with_reducible repeat (first|refine Zi (by first|assumption|omega|rfl|exact B_pos (by omega)) ?_|refine Zh (by first|assumption|omega|decide|exact B_not (by omega)) ?_|refine Zf (by first|assumption) ?_|dsimp only));first|done|(with_reducible rfl)|simp (disch:=omega) only[w64]|(show False;done))
   ·
    obtain⟨g1,g2⟩:=k2 h
    refine⟨rfl,fun k q1 q2 => ?_⟩
    by_cases e:k=i
    ·
     rw[e];simpa using g1
    ·
     exact g2 k (by omega) q2
   ·
    refine k3 ?_ fun k q1 q2=>h k (by omega) q2
    rw[h i (Nat.le_refl _) (by omega)]
    rfl
theorem ZiP (m2:2≤m) (m12:m≤12) (W0:0 < W) (hW:W≤1000) (n0:0 < n) (hn:n≤100000):∀(N:Nat) (r:List (List Int)),CI m W n X r→((∀j:Nat,1≤j→j < W→T r 0 (j:Int)=0)∧(T r 0 0).toNat*2≤N)∨(T r 0 0).toNat*2+1≤N →
  ∃Y,Ze.l1 (W:Int) m true r=some Y∧CI m W n X Y∧(∀j:Nat,1≤j→j < W→T Y 0 (j:Int)=0)∧∀k:Nat,1≤k→k < n→T Y (k:Int) 0=0:=by
 intro N
 induction N with
 | zero =>
  intro r hC h
  have:=hC.pos
  rcases h with ⟨_,h⟩|h <;> omega
 | succ N ih =>
  intro r hC hN
  have tt:true=true:=rfl
  obtain⟨r1,a1,a2,a3⟩:=ZiQ m2 m12 W0 hW hn (row0:=fst0 r) (n - 1) 1 r (by omega) (Nat.le_refl _) hC (.inr ⟨rfl,fun k k1 k2=>by omega⟩)
  have a1:Ze.l2 (W:Int) m false 1 r=Ze.l3 (W:Int) m false 1 r1:=a1
  obtain⟨r2,f2,b1,b2,b3,b4,b5⟩:=ZiN m2 m12 W0 hW n0 hn (rs:=r1) (d1:=T r1 0 0) (W - 1) 1 r1 false (by omega) (Nat.le_refl _) a2 (fun j j1 j2=>by omega) (Int.le_refl _) (fun _=>⟨rfl,rfl⟩)
  have b1:Ze.l3 (W:Int) m false 1 r1=Ze.l5 (W:Int) m f2 1 r2:=b1
  obtain⟨f3,c1,c2,c3⟩:=ZiO hn W0 b2 (n - 1) 1 f2 (by omega) (Nat.le_refl _)
  have c1:Ze.l5 (W:Int) m f2 1 r2=Ze.l1 (W:Int) m f3 r2:=c1
  have start:Ze.l1 (W:Int) m true r=Ze.l1 (W:Int) m f3 r2:=by
   rw[Ze.l1_eq,if_pos tt,a1,b1,c1]
  cases f3 with
  | false =>
   refine⟨r2,?_,b2,b3,fun k k1 k2=>(c2 rfl).2 k k1 k2⟩
   rw[start,Ze.l1_eq]
   rfl
  | true =>
   rw[start]
   refine ih r2 b2 (.inl ⟨b3,?_⟩)
   have p2:=b2.pos
   have p1:=a2.pos
   rcases a3 with a3|⟨a3,a4⟩
   ·
    have a3:T r1 0 0 < T r 0 0:=a3
    rcases hN with ⟨_,hN⟩|hN <;> omega
   ·
    have e:T r1 0 0=T r 0 0:=by rw[T0,T0,a3]
    by_cases hcl:∀j:Nat,1≤j→j < W→T r 0 (j:Int)=0
    ·
     exfalso
     have h1:∀j:Nat,1≤j→j < W→T r1 0 (j:Int)=0:=fun j j1 j2=>by rw[T0,a3];exact hcl j j1 j2
     obtain⟨e2,e3⟩:=b5 h1
     have:=c3 e3 (fun k k1 k2=>by rw[e2];exact a4 k k1 k2)
     cases this
    ·
     rcases hN with ⟨hN,_⟩|hN
     ·
      exact absurd hN hcl
     ·
      omega
end
end Go.Proofs.Ytdamfbighdkcbaa.V
namespace Go.Proofs.Ytdamfbighdkcbaa.V
open Go.RowKit Go.Proofs.Ytdamfbighdkcbaa.D Go.Proofs.Ytdamfbighdkcbaa.P
def sw (c:Nat) (x:List Int):List Int:=(x.set 0 (rd x (c:Int))).set c (rd x 0)
theorem ZmA (c:Nat) (x:List Int):(sw c x).length=x.length:=by rw[sw,List.length_set,List.length_set]
theorem sw_in {m:Int} {c:Nat} {x:List Int} (h:AllIn m x) (h0:0 < x.length) (hc:c < x.length):AllIn m (sw c x):=Zbq fun z hz=>by
 rcases List.mem_or_eq_of_mem_set hz with k|k
 ·
  rcases List.mem_or_eq_of_mem_set k with k|k
  ·
   exact h.mem k
  ·
   rw[k];exact h c (by omega) (by omega)
 ·
  rw[k];exact h 0 (by omega) (by omega)
theorem sw_rd {c:Nat} {x:List Int} (h0:0 < x.length) (hc:c < x.length) (i:Nat):rd (sw c x) (i:Int)=if i=c then rd x 0 else if i=0 then rd x (c:Int)else rd x (i:Int):=by
 unfold sw
 by_cases e:i=c
 ·
  subst e;rw[if_pos rfl,Za5 (by rw[List.length_set];exact hc)]
 ·
  rw[if_neg e,Zbb e]
  by_cases e2:i=0
  ·
   subst e2;rw[if_pos rfl,Za5 h0]
  ·
   rw[if_neg e2,Zbb e2]
theorem Zmz {m:Int} (m0:0 < m) {W:Nat} {X:List (List Int)} (h:Rok m W X) {c:Nat} (hc:c < W):Eqd m W (Mx m W X) (Mx m W (X.map (sw c))):=by
 by_cases c0:c=0
 ·
  subst c0
  refine Mx_same' (List.length_map ..) (fun i hi => ?_) fun i hi => ?_
  ·
   have:=Zbd (m:=m) (W:=W) (r:=X.map (sw 0)) (i:=i) (by rw[List.length_map];exact hi)
   rw[Zdl _ _ hi]at this
   refine this.alike fun k hk=>Zas ?_
   show rd (sw 0 _) (k:Int)=rd _ (k:Int)
   rw[sw_rd (by have:=(h i hi).1;omega) (by have:=(h i hi).1;omega)]
   split
   ·
    rename_i e;rw[e];rfl
   ·
    rfl
  ·
   rw[Zdl _ _ hi]
   refine(Zbd (m:=m) (W:=W) hi).alike fun k hk=>Zas ?_
   show rd _ (k:Int)=rd (sw 0 _) (k:Int)
   rw[sw_rd (by have:=(h i hi).1;omega) (by have:=(h i hi).1;omega)]
   split
   ·
    rename_i e;rw[e];rfl
   ·
    rfl
 ·
  refine Zlg m0 (ZgN (r:=W) (a:=0) (b:=c) (p:=0) (q:=1) (s:=1) (t:=0) (p' := 0) (q' := 1) (s' := 1) (t' := 0) (by omega) (by omega) hc rfl rfl rfl rfl rfl rfl rfl rfl) (List.length_map ..) fun n hn i hi => ?_
  rw[Zdl _ _ hn]
  refine Zas ?_
  show pairT 0 c 0 1 1 0 (V (row X (n:Int))) i=rd (sw c (row X (n:Int))) (i:Int)
  rw[sw_rd (by have:=(h n hn).1;omega) (by have:=(h n hn).1;omega),pairT]
  by_cases e:i=0
  ·
   rw[if_pos e,if_neg (by omega),if_pos e]
   show 0*rd _ _+1*rd _ (c:Int)=_
   omega
  ·
   rw[if_neg e]
   by_cases e2:i=c
   ·
    rw[if_pos e2,if_pos e2]
    show 1*rd _ ((0:Nat):Int)+0*rd _ _=rd _ 0
    rw[show rd (row X (n:Int)) 0=rd (row X (n:Int)) ((0:Nat):Int)from rfl]
    omega
   ·
    rw[if_neg e2,if_neg e2,if_neg e]
    rfl
theorem Zmg {m:Int} (m2:2≤m) (m12:m≤12) {W:Nat} (W0:0 < W) (hW:W≤1000) {X:List (List Int)} (hX:Rok m W X) (hL:X.length≤100000) {at_ c:Nat} (ha:at_ < X.length) (hc:c < W) (hne:¬ rd (row X (at_:Int)) (c:Int)=0) :
  ∃Y,Ze.f X (at_:Int) (c:Int) (W:Int) m=some Y∧CI m W X.length X Y∧(∀j:Nat,1≤j→j < W→T Y 0 (j:Int)=0)∧∀k:Nat,1≤k→k < X.length→T Y (k:Int) 0=0:=by
 have t0:(0:Int).toNat=0:=rfl
 have loop:=up X.length (fun j=>Ze.l0 X (at_:Int) (c:Int) (W:Int) m (j:Int) ((X.take j).map (sw c))) (fun j hj=>by
  obtain⟨lj,aj⟩:=hX j hj
  have hO:=Own_ (row X (j:Int)) (by omega)
  have hl1:((row X (j:Int)).set (0:Int).toNat (T X (j:Int) (c:Int))).length=W:=by rw[List.length_set];exact lj
  have hs:((row X (j:Int)).set (0:Int).toNat (T X (j:Int) (c:Int))).set c (T X (j:Int) 0)=sw c (row X (j:Int)):=rfl
  have ht:(X.take (j+1)).map (sw c)=(X.take j).map (sw c)++[sw c (row X (j:Int))]:=by
   rw[List.take_add_one,List.getElem?_eq_getElem hj,List.map_append,Za0 hj];rfl
  have l1:([sw c (row X (j:Int))]:List (List Int)).length=1:=rfl
  have l2:((X.take j).map (sw c)).length=j:=by simp;omega
  rw[Ze.l0_eq,wn (j:=j) (by omega),ht,hO,Option.bind_some,Int.toNat_natCast,hs]
  ((with_reducible repeat (first|refine Zi (by first|assumption|omega|rfl|exact B_pos (by omega)) ?_|refine Zh (by first|assumption|omega|decide|exact B_not (by omega)) ?_|refine Zf (by first|assumption) ?_|dsimp only));first|done|(with_reducible rfl)|simp (disch:=omega) only[w64]|(show False;done)))
 rw[List.take_zero,List.map_nil,List.take_length]at loop
 obtain⟨r,hr⟩:∃r,r=X.map (sw c):=⟨_,rfl⟩
 have rl:r.length=X.length:=by rw[hr,List.length_map]
 have hrow:∀j:Nat,j < X.length→row r (j:Int)=sw c (row X (j:Int)):=fun j hj=>by rw[hr];exact Zdl _ _ hj
 have rok:Rok m W r:=fun i hi=>by
  obtain⟨a1,a2⟩:=hX i (by omega)
  rw[hrow i (by omega)]
  exact⟨by rw[ZmA];exact a1,sw_in a2 (by omega) (by omega)⟩
 have req:Eqd m W (Mx m W X) (Mx m W r):=by rw[hr];exact Zmz (by omega) hX hc
 obtain⟨la,aa⟩:=rok at_ (by omega)
 have h0:rd (row r (at_:Int)) ((0:Nat):Int)=rd (row X (at_:Int)) (c:Int):=by
  rw[hrow at_ ha,sw_rd (by have:=(hX at_ ha).1;omega) (by have:=(hX at_ ha).1;omega)]
  split
  ·
   rename_i e;rw[←e];rfl
  ·
   rw[if_pos rfl]
 obtain⟨u,⟨u1,u2⟩,hu,hux,hU⟩:=Unit_ m2 m12 aa (by omega) (j:=0) (by omega) (by rw[h0];exact hne)
 have hU:ZX.f (row r (at_:Int)) 0 m=some (mix m u (row r (at_:Int)) 0 (row r (at_:Int))):=hU
 obtain⟨v,hv⟩:=ZiE m2 m12 (by omega) u2 hu
 have hsa:r.set (at_:Int).toNat (row r (at_:Int))=r:=by rw[Int.toNat_natCast];exact Zc5 r at_
 obtain⟨x0,x1⟩:=rok.bd (i:=at_) (k:=0) (by omega) W0
 obtain⟨x,hx⟩:∃x,x=rd (row r (at_:Int)) ((0:Nat):Int):=⟨_,rfl⟩
 rw[←hx]at x0 x1 hux
 have xne:¬ x=0:=by rw[hx,h0];exact hne
 obtain⟨g,hg⟩:∃g,g=((Int.gcd x m:Nat):Int):=⟨_,rfl⟩
 rw[←hg]at hux
 have g0:0 < g:=by rw[hg];exact_mod_cast Int.gcd_pos_of_ne_zero_left m xne
 have gx:g≤x:=by rw[hg];exact Int.le_of_dvd (by omega) (Int.gcd_dvd_left ..)
 have gm:g∣m:=by rw[hg];exact Int.gcd_dvd_right ..
 have hT:∀r' : List (List Int),row r' 0=mix m u (row r (at_:Int)) 0 (row r (at_:Int))→T r' 0 0=g:=fun r' h=>by
  show rd (row r' 0) ((0:Nat):Int)=g
  rw[h,ZbE (by omega),←hx,Int.zero_mul,Int.add_zero,Ze7 hux]
  exact Int.emod_eq_of_lt (by omega) (by omega)
 have main:∃r', Ze.f X (at_:Int) (c:Int) (W:Int) m=Ze.l1 (W:Int) m true r' ∧ CI m W X.length X r' := by
  rw[Ze.f_eq]
  have loop:Ze.l0 X (at_:Int) (c:Int) (W:Int) m 0 []=Ze.l0 X (at_:Int) (c:Int) (W:Int) m (X.length:Int) r:=by rw[hr];exact loop
  rw[loop,Ze.l0_eq]
  by_cases a0:at_=0
  ·
   subst a0
   refine⟨r.set 0 (mix m u (row r ((0:Nat):Int)) 0 (row r ((0:Nat):Int))),?_,?_⟩
   ·
    simp only[hsa]
    (with_reducible repeat (first|refine Zi (by first|assumption|omega|rfl|exact B_pos (by omega)) ?_|refine Zh (by first|assumption|omega|decide|exact B_not (by omega)) ?_|refine Zf (by first|assumption) ?_|dsimp only))
    rfl
   ·
    have e:=hT (r.set 0 (mix m u (row r ((0:Nat):Int)) 0 (row r ((0:Nat):Int)))) (ZaN (j:=0) (by omega))
    exact⟨by rw[List.length_set];exact rl,rok.set ⟨by rw[ZaS];exact la,ZbR (by omega)⟩,req.trans (Zir (by omega) rok (by omega) hv _),by rw[e];exact g0,by rw[e];exact gm⟩
  ·
   refine⟨(r.set at_ (row r ((0:Nat):Int))).set 0 (mix m u (row r (at_:Int)) 0 (row r (at_:Int))),?_,?_⟩
   ·
    simp only[hsa]
    (with_reducible repeat (first|refine Zi (by first|assumption|omega|rfl|exact B_pos (by omega)) ?_|refine Zh (by first|assumption|omega|decide|exact B_not (by omega)) ?_|refine Zf (by first|assumption) ?_|dsimp only))
    rfl
   ·
    have e:=hT ((r.set at_ (row r ((0:Nat):Int))).set 0 (mix m u (row r (at_:Int)) 0 (row r (at_:Int)))) (ZaN (j:=0) (by rw[List.length_set];omega))
    have k1:=Zk2 (m:=m) (W:=W) (r:=r) (i:=at_) (j:=0) (by omega) (by omega)
    obtain⟨r1,hr1⟩:∃r1,r1=(r.set at_ (row r ((0:Nat):Int))).set 0 (row r (at_:Int)):=⟨_,rfl⟩
    have r10:row r1 ((0:Nat):Int)=row r (at_:Int):=by rw[hr1];exact ZaN (by rw[List.length_set];omega)
    have ok1:Rok m W r1:=by rw[hr1];exact(rok.set (rok 0 (by omega))).set ⟨la,aa⟩
    have k2:=Zir (m:=m) (by omega) ok1 (i:=0) (by rw[hr1,List.length_set,List.length_set];omega) hv (row r (at_:Int))
    rw[r10]at k2
    rw[←hr1]at k1
    have e2:r1.set 0 (mix m u (row r (at_:Int)) 0 (row r (at_:Int)))=(r.set at_ (row r ((0:Nat):Int))).set 0 (mix m u (row r (at_:Int)) 0 (row r (at_:Int))):=by rw[hr1,List.set_set]
    rw[e2]at k2
    exact⟨by rw[List.length_set,List.length_set];exact rl,(rok.set (rok 0 (by omega))).set ⟨by rw[ZaS];exact la,ZbR (by omega)⟩,req.trans (k1.trans k2),by rw[e];exact g0,by rw[e];exact gm⟩
 obtain⟨r', k1,k2⟩:=main
 obtain⟨Y,b1,b2,b3,b4⟩:=ZiP m2 m12 W0 hW (by omega) hL _ r' k2 (.inr (Nat.le_refl _))
 exact⟨Y,by rw[k1,b1],b2,b3,b4⟩
def Fnd (m:Int) (W:Nat) (X:List (List Int)) (Z:Nat→Nat→Prop) (a c best:Int):Prop:=(a = -1∧best=m∧∀i k:Nat,Z i k→rd (row X (i:Int)) (k:Int)=0)∨∃A C:Nat,a=(A:Int)∧c=(C:Int)∧A < X.length∧C < W∧¬ rd (row X (A:Int)) (C:Int)=0
theorem ZlD {m:Int} (m2:2≤m) (m12:m≤12):∀(W:Nat) (X:List (List Int)) (out:List Int),W≤1000→Rok m W X→X.length≤100000→out.length+W≤100000 →
  ∃ns,Zg.l0 m X (W:Int) out=some (out++ns)∧ns.length=W∧(∀n∈ns,0 < n∧n∣m)∧Dg m W (Mx m W X) ns:=by
 intro W
 induction W with
 | zero =>
  intro X out hW hX hL ho
  refine⟨[],?_,rfl,fun n hn=>(by cases hn),.nil (by omega) Sp.sub⟩
  rw[Zg.l0_eq,List.append_nil]
  ((with_reducible repeat (first|refine Zi (by first|assumption|omega|rfl|exact B_pos (by omega)) ?_|refine Zh (by first|assumption|omega|decide|exact B_not (by omega)) ?_|refine Zf (by first|assumption) ?_|dsimp only));first|done|(with_reducible rfl)|simp (disch:=omega) only[w64]|(show False;done))
 | succ W ih =>
  intro X out hW hX hL ho
  have inner:∀(c k i:Nat) (a cc best:Int),k+c=W+1→i < X.length→Fnd m (W+1) X (fun i' k' => i' < i∧k' < W+1∨i' = i∧k' < k) a cc best→∃a' cc' best', Zg.l2 m X ((W+1:Nat):Int) a cc best (i:Int) (k:Int) out=Zg.l1 m X ((W+1:Nat):Int) a' cc' best' ((i+1:Nat):Int) out∧Fnd m (W+1) X (fun i' k' => i' < i+1∧k' < W+1) a' cc' best' := by
   intro c
   induction c with
   | zero =>
    intro k i a cc best hk hi hF
    refine⟨a,cc,best,?_,?_⟩
    ·
     rw[Zg.l2_eq,wn (j:=i) (by omega)]
     ((with_reducible repeat (first|refine Zi (by first|assumption|omega|rfl|exact B_pos (by omega)) ?_|refine Zh (by first|assumption|omega|decide|exact B_not (by omega)) ?_|refine Zf (by first|assumption) ?_|dsimp only));first|done|(with_reducible rfl)|simp (disch:=omega) only[w64]|(show False;done))
    ·
     rcases hF with ⟨h1,h2,h3⟩|hF
     ·
      exact .inl ⟨h1,h2,fun i' k' h=>h3 i' k' (by omega)⟩
     ·
      exact .inr hF
   | succ c ihc =>
    intro k i a cc best hk hi hF
    obtain⟨li,ai⟩:=hX i hi
    obtain⟨x0,x1⟩:=hX.bd (i:=i) (k:=k) hi (by omega)
    obtain⟨x,hx⟩:∃x,x=T X (i:Int) (k:Int):=⟨_,rfl⟩
    have x0:0≤x:=by rw[hx];exact x0
    have x1:x < m:=by rw[hx];exact x1
    have hG:=Gcd_ (a:=x) (b:=m) (by omega) (by omega) (by omega) (by omega)
    have step:∀a cc best,Fnd m (W+1) X (fun i' k' => i' < i∧k' < W+1∨i' = i∧k' < k+1) a cc best→∃a' cc' best', Zg.l2 m X ((W+1:Nat):Int) a cc best (i:Int) ((k+1:Nat):Int) out=Zg.l1 m X ((W+1:Nat):Int) a' cc' best' ((i+1:Nat):Int) out∧Fnd m (W+1) X (fun i' k' => i' < i+1∧k' < W+1) a' cc' best' := fun a cc best h=>ihc (k+1) i a cc best (by omega) hi h
    rw[Zg.l2_eq,wn (j:=k) (by omega),←hx]
    by_cases hx0:x=0
    ·
     obtain ⟨a', cc', best', k1,k2⟩:=step a cc best (by
      rcases hF with ⟨h1,h2,h3⟩|hF
      ·
       refine .inl ⟨h1,h2,fun i' k' h => ?_⟩
       by_cases e:i' = i∧k' = k
       ·
        rw[e.1,e.2,←Tn,←hx];exact hx0
       ·
        exact h3 i' k' (by omega)
      ·
       exact .inr hF)
     refine⟨a', cc', best', ?_,k2⟩
     rw[←k1]
     ((with_reducible repeat (first|refine Zi (by first|assumption|omega|rfl|exact B_pos (by omega)) ?_|refine Zh (by first|assumption|omega|decide|exact B_not (by omega)) ?_|refine Zf (by first|assumption) ?_|dsimp only));first|done|(with_reducible rfl)|simp (disch:=omega) only[w64]|(show False;done))
    ·
     obtain⟨g,hg⟩:∃g,g=((Int.gcd x m:Nat):Int):=⟨_,rfl⟩
     rw[←hg]at hG
     by_cases hb:g < best
     ·
      obtain⟨a', cc', best', k1,k2⟩:=step (i:Int) (k:Int) g (.inr ⟨i,k,rfl,rfl,hi,by omega,by rw[←Tn,←hx];exact hx0⟩)
      refine⟨a', cc', best', ?_,k2⟩
      rw[←k1]
      ((with_reducible repeat (first|refine Zi (by first|assumption|omega|rfl|exact B_pos (by omega)) ?_|refine Zh (by first|assumption|omega|decide|exact B_not (by omega)) ?_|refine Zf (by first|assumption) ?_|dsimp only));first|done|(with_reducible rfl)|simp (disch:=omega) only[w64]|(show False;done))
     ·
      obtain⟨a', cc', best', k1,k2⟩:=step a cc best (by
       rcases hF with ⟨h1,h2,h3⟩|hF
       ·
        exfalso
        have:g≤x:=by rw[hg];exact Int.le_of_dvd (by omega) (Int.gcd_dvd_left ..)
        omega
       ·
        exact .inr hF)
      refine⟨a', cc', best', ?_,k2⟩
      rw[←k1]
      ((with_reducible repeat (first|refine Zi (by first|assumption|omega|rfl|exact B_pos (by omega)) ?_|refine Zh (by first|assumption|omega|decide|exact B_not (by omega)) ?_|refine Zf (by first|assumption) ?_|dsimp only));first|done|(with_reducible rfl)|simp (disch:=omega) only[w64]|(show False;done))
  have outer:∀(c i:Nat) (a cc best:Int),i+c=X.length→Fnd m (W+1) X (fun i' k' => i' < i∧k' < W+1) a cc best→∃a' cc' best', Zg.l1 m X ((W+1:Nat):Int) a cc best (i:Int) out=Zg.l1 m X ((W+1:Nat):Int) a' cc' best' (X.length:Int) out∧Fnd m (W+1) X (fun i' k' => i' < X.length∧k' < W+1) a' cc' best' := by
   intro c
   induction c with
   | zero =>
    intro i a cc best hi hF
    have:i=X.length:=by omega
    subst this
    exact⟨a,cc,best,rfl,hF⟩
   | succ c ihc =>
    intro i a cc best hi hF
    obtain⟨a1,c1,b1,k1,k2⟩:=inner (W+1) 0 i a cc best (by omega) (by omega) (by
     rcases hF with ⟨h1,h2,h3⟩|hF
     ·
      exact .inl ⟨h1,h2,fun i' k' h=>h3 i' k' (by omega)⟩
     ·
      exact .inr hF)
    have k1:Zg.l2 m X ((W+1:Nat):Int) a cc best (i:Int) 0 out=_:=k1
    obtain⟨a2,c2,b2,k3,k4⟩:=ihc (i+1) a1 c1 b1 (by omega) k2
    refine⟨a2,c2,b2,?_,k4⟩
    rw[←k3,←k1,Zg.l1_eq]
    ((with_reducible repeat (first|refine Zi (by first|assumption|omega|rfl|exact B_pos (by omega)) ?_|refine Zh (by first|assumption|omega|decide|exact B_not (by omega)) ?_|refine Zf (by first|assumption) ?_|dsimp only));first|done|(with_reducible rfl)|simp (disch:=omega) only[w64]|(show False;done))
  obtain⟨a,cc,best,k1,k2⟩:=outer X.length 0 (-1) 0 m (by omega) (.inl ⟨rfl,rfl,fun i' k' h=>by omega⟩)
  have k1:Zg.l1 m X ((W+1:Nat):Int) (-1) 0 m 0 out=_:=k1
  have start:Zg.l0 m X ((W+1:Nat):Int) out=Zg.l1 m X ((W+1:Nat):Int) a cc best (X.length:Int) out:=by
   rw[Zg.l0_eq,k1]
   ((with_reducible repeat (first|refine Zi (by first|assumption|omega|rfl|exact B_pos (by omega)) ?_|refine Zh (by first|assumption|omega|decide|exact B_not (by omega)) ?_|refine Zf (by first|assumption) ?_|dsimp only));first|done|(with_reducible rfl)|simp (disch:=omega) only[w64]|(show False;done))
  rw[start,Zg.l1_eq]
  rcases k2 with ⟨h1,h2,h3⟩|⟨A,C,h1,h2,h3,h4,h5⟩
  ·
   subst h1
   have fill:∀(c:Nat) (o:List Int),o.length+c≤100000→Zg.l3 m (c:Int) o=some (o++List.replicate c m):=by
    intro c
    induction c with
    | zero =>
     intro o _
     rw[Zg.l3_eq,List.replicate_zero,List.append_nil]
     ((with_reducible repeat (first|refine Zi (by first|assumption|omega|rfl|exact B_pos (by omega)) ?_|refine Zh (by first|assumption|omega|decide|exact B_not (by omega)) ?_|refine Zf (by first|assumption) ?_|dsimp only));first|done|(with_reducible rfl)|simp (disch:=omega) only[w64]|(show False;done))
    | succ c ihc =>
     intro o ho
     have l1:([m]:List Int).length=1:=rfl
     have w:wrapI (((c+1:Nat):Int) - 1)=(c:Int):=by rw[w64 (by omega) (by omega)];omega
     have:=ihc (o++[m]) (by rw[List.length_append,l1];omega)
     rw[Zg.l3_eq,w,this,List.append_assoc,List.replicate_succ,List.singleton_append]
     ((with_reducible repeat (first|refine Zi (by first|assumption|omega|rfl|exact B_pos (by omega)) ?_|refine Zh (by first|assumption|omega|decide|exact B_not (by omega)) ?_|refine Zf (by first|assumption) ?_|dsimp only));first|done|(with_reducible rfl)|simp (disch:=omega) only[w64]|(show False;done))
   refine⟨List.replicate (W+1) m,?_,List.length_replicate,fun n hn => ?_,?_⟩
   ·
    rw[fill (W+1) out (by omega)]
    ((with_reducible repeat (first|refine Zi (by first|assumption|omega|rfl|exact B_pos (by omega)) ?_|refine Zh (by first|assumption|omega|decide|exact B_not (by omega)) ?_|refine Zf (by first|assumption) ?_|dsimp only));first|done|(with_reducible rfl)|simp (disch:=omega) only[w64]|(show False;done))
   ·
    rw[List.eq_of_mem_replicate hn];exact⟨by omega,Int.dvd_refl m⟩
   ·
    rw[show Mx m (W+1) X=fun x=>∀i,i < W+1→m∣x i from funext fun x=>propext (ZlC (fun r hr i hi=>by
     obtain⟨k,q0,q1,rfl⟩:=Zdm hr
     obtain⟨n,rfl⟩:=Int.eq_ofNat_of_zero_le q0
     exact h3 n i ⟨by omega,hi⟩) x)]
    exact Dg.zero (by omega) (W+1)
  ·
   subst h1;subst h2
   obtain⟨Y,y1,y2,y3,y4⟩:=Zmg m2 m12 (W:=W+1) (by omega) hW hX hL h3 h4 h5
   have yl:=y2.len
   obtain⟨yl0,ya0⟩:=y2.ok 0 (by omega)
   have yl0' : (row Y 0).length=W+1:=yl0
   have lone:([T Y 0 0]:List Int).length=1:=rfl
   obtain⟨F,hF⟩:∃F,F=(Y.drop 1).map fun r=>r.drop 1:=⟨_,rfl⟩
   have Fl:F.length=X.length - 1:=by rw[hF,List.length_map,List.length_drop,yl]
   have Frow:∀i:Nat,i < F.length→row F (i:Int)=(row Y ((i+1:Nat):Int)).drop 1:=fun i hi=>by
    rw[Za0 hi,Za0 (by omega)]
    simp only[hF,List.getElem_map,List.getElem_drop]
    congr 2
    omega
   have loop:=up (X.length - 1) (fun j=>Zg.l4 m Y ((W+1:Nat):Int) ((1+j:Nat):Int) (out++[T Y 0 0]) (F.take j)) (fun j hj=>by
    obtain⟨lj,aj⟩:=y2.ok (1+j) (by omega)
    have e:F.take (j+1)=F.take j++[(row Y ((1+j:Nat):Int)).drop (1:Int).toNat]:=by
     rw[List.take_add_one,List.getElem?_eq_getElem (by omega),←Za0 (by omega),Frow j (by omega),Nat.add_comm 1 j];rfl
    have l1:([(row Y ((1+j:Nat):Int)).drop (1:Int).toNat]:List (List Int)).length=1:=rfl
    have l2:(F.take j).length=j:=by rw[List.length_take];omega
    rw[Zg.l4_eq,wn (j:=1+j) (by omega),e,show 1+(j+1)=1+j+1 from rfl]
    ((with_reducible repeat (first|refine Zi (by first|assumption|omega|rfl|exact B_pos (by omega)) ?_|refine Zh (by first|assumption|omega|decide|exact B_not (by omega)) ?_|refine Zf (by first|assumption) ?_|dsimp only));first|done|(with_reducible rfl)|simp (disch:=omega) only[w64]|(show False;done)))
   rw[show F.take (X.length - 1)=F by rw[←Fl,List.take_length],show 1+(X.length - 1)=X.length by omega]at loop
   have loop:Zg.l4 m Y ((W+1:Nat):Int) 1 (out++[T Y 0 0]) []=_:=loop
   have Fok:Rok m W F:=fun i hi=>by
    obtain⟨b1,b2⟩:=y2.ok (i+1) (by omega)
    rw[Frow i hi]
    exact⟨by rw[List.length_drop,b1];omega,b2.drop 1⟩
   obtain⟨ns,n1,n2,n3,n4⟩:=ih F (out++[T Y 0 0]) (by omega) Fok (by omega) (by rw[List.length_append,lone];omega)
   have w:wrapI (((W+1:Nat):Int) - 1)=(W:Int):=by rw[w64 (by omega) (by omega)];omega
   refine⟨T Y 0 0 :: ns,?_,by rw[List.length_cons,n2],fun n hn => ?_,?_⟩
   ·
    have fin:Zg.l4 m Y ((W+1:Nat):Int) (X.length:Int) (out++[T Y 0 0]) F=some (out++T Y 0 0 :: ns):=by
     rw[Zg.l4_eq,w,n1,List.append_assoc,List.singleton_append]
     ((with_reducible repeat (first|refine Zi (by first|assumption|omega|rfl|exact B_pos (by omega)) ?_|refine Zh (by first|assumption|omega|decide|exact B_not (by omega)) ?_|refine Zf (by first|assumption) ?_|dsimp only));first|done|(with_reducible rfl)|simp (disch:=omega) only[w64]|(show False;done))
    (with_reducible repeat (first|refine Zi (by first|assumption|omega|rfl|exact B_pos (by omega)) ?_|refine Zh (by first|assumption|omega|decide|exact B_not (by omega)) ?_|refine Zf (by first|assumption) ?_|dsimp only))
    rw[loop,fin]
   ·
    rcases List.mem_cons.1 hn with rfl|hn
    ·
     exact⟨y2.pos,y2.dvd⟩
    ·
     exact n3 n hn
   ·
    refine Dg.eqd ?_ y2.eqd
    have hY:Y=row Y ((0:Nat):Int) :: Y.drop 1:=by
     rw[Za0 (by omega)]
     exact(List.drop_eq_getElem_cons (i:=0) (l:=Y) (by omega)).symm ▸ rfl
    refine Dg.cons (by omega) y2.dvd y2.pos Sp.sub (fun x => ?_) n4
    rw[hY,hF]
    refine ZlB y2.dvd rfl (fun i i0 i1=>y3 i (by omega) i1) (fun r hr => ?_) x
    obtain⟨k,q0,q1,e⟩:=Zdm hr
    obtain⟨n,rfl⟩:=Int.eq_ofNat_of_zero_le q0
    rw[List.length_drop]at q1
    have:=y4 (n+1) (by omega) (by omega)
    rw[←e]
    rw[Ti,Za0 (show n+1 < Y.length by omega)]at this
    rw[Za0 (by rw[List.length_drop];omega)]
    show rd ((Y.drop 1)[n]'(by rw[List.length_drop];omega)) ((0:Nat):Int)=0
    rw[List.getElem_drop]
    have e2:1+n=n+1:=by omega
    simp only[e2]
    exact this
end Go.Proofs.Ytdamfbighdkcbaa.V
namespace Go.Proofs.Ytdamfbighdkcbaa.V
open Go.RowKit Go.Proofs.Ytdamfbighdkcbaa.D
def qs:List (Nat×Nat×Nat):=[(2,2,1),(4,2,2),(8,2,4),(3,3,1),(9,3,3),(5,5,1),(7,7,1),(11,11,1)]
def cq (q:Nat) (l:List Int):Nat:=l.countP fun n=>decide (n%(q:Int)=0)
theorem ZcK (q:Nat) (x:Int) (l:List Int):cq q (x :: l)=cq q l+if x%(q:Int)=0 then 1 else 0:=by
 rw[cq,List.countP_cons]
 by_cases h:x%(q:Int)=0
 ·
  rw[if_pos (decide_eq_true h),if_pos h];rfl
 ·
  rw[if_neg (by simpa using h),if_neg h];rfl
theorem qs_bd:∀t∈qs,2≤t.1∧2≤t.2.1∧0 < t.2.2∧t.1≤12∧t.1=t.2.1*t.2.2:=by decide
theorem ZgQ:∀l:List Nat,(∀x∈l,0 < x)→0 < prodN l
 | [],_=>by decide
 | x :: l,h=>Nat.mul_pos (h x List.mem_cons_self) (ZgQ l fun y hy=>h y (List.mem_cons_of_mem _ hy))
def prI (l:List Int):Nat:=prodN (l.map Int.toNat)
theorem Zlu {m:Int} (m0:0 < m):∀l:List Int,(∀n∈l,0 < n∧n∣m)→prI l*prodN (l.map fun n=>gq m m n)=m.toNat ^ l.length
 | [],_=>rfl
 | n :: l,h=>by
  obtain⟨n0,q,hq⟩:=h n List.mem_cons_self
  have ih:=Zlu m0 l fun x hx=>h x (List.mem_cons_of_mem _ hx)
  have q0:0 < q:=by
   rcases Int.lt_or_le 0 q with k|k
   ·
    exact k
   ·
    have:=Int.mul_le_mul_of_nonneg_left k (Int.le_of_lt n0);omega
  have e:gq m m n=q.toNat:=by
   have hg:((Int.gcd n m:Nat):Int)=n:=by
    rw[Int.gcd_eq_natAbs_left (⟨q,hq⟩:n∣m)];omega
   rw[gq,hg,hq,Int.mul_ediv_cancel_left _ (by omega)]
  have e2:n.toNat*q.toNat=m.toNat:=by
   rw[hq]
   obtain⟨N,rfl⟩:=Int.eq_ofNat_of_zero_le (Int.le_of_lt n0)
   obtain⟨Q,rfl⟩:=Int.eq_ofNat_of_zero_le (Int.le_of_lt q0)
   rfl
  rw[prI,List.map_cons,List.map_cons,prodN,prodN,e,List.length_cons,Nat.pow_succ,←ih,←e2,prI]
  simp only[Nat.mul_assoc,Nat.mul_comm,Nat.mul_left_comm]
structure Chn (m:Int) (L:List Int):Prop where
 ent:∀x∈L,2≤x∧x∣m
 dvd:L.Pairwise fun x y=>x∣y
theorem cq_le (q:Nat) (l:List Int):cq q l≤l.length:=List.countP_le_length
theorem Zll {q:Nat}:∀{l:List Int},(∀x∈l,x%(q:Int)=0)→cq q l=l.length
 | [],_=>rfl
 | x :: l,h=>by rw[ZcK,Zll fun y hy=>h y (List.mem_cons_of_mem _ hy),if_pos (h x List.mem_cons_self),List.length_cons]
theorem Zhc {a b q:Int} (h:a∣b) (k:a%q=0):b%q=0:=Int.emod_eq_zero_of_dvd (Int.dvd_trans (Int.dvd_of_emod_eq_zero k) h)
end Go.Proofs.Ytdamfbighdkcbaa.V
namespace Go.Proofs.Ytdamfbighdkcbaa.V
open Go.RowKit Go.Proofs.Ytdamfbighdkcbaa.D Go.Proofs.Ytdamfbighdkcbaa.P
def prm5:List Nat:=[2,3,5,7,11]
theorem Zli {p:Nat} (h2:2≤p) (h12:p≤12):Z4.f (p:Int)=some (decide (p∈prm5)):=by
 have w1:wrapI (2*2)=4:=w64 (by omega) (by omega)
 have w2:wrapI (3*3)=9:=w64 (by omega) (by omega)
 have w3:wrapI (4*4)=16:=w64 (by omega) (by omega)
 have v1:wrapI (2+1)=3:=w64 (by omega) (by omega)
 have v2:wrapI (3+1)=4:=w64 (by omega) (by omega)
 have hp:p=2∨p=3∨p=4∨p=5∨p=6∨p=7∨p=8∨p=9∨p=10∨p=11∨p=12:=by omega
 rw[Z4.f_eq]
 rcases hp with rfl|rfl|rfl|rfl|rfl|rfl|rfl|rfl|rfl|rfl|rfl
 all_goals
  rw[Z4.l0_eq,w1,v1]
  try rw[Z4.l0_eq,w2,v2]
  try rw[Z4.l0_eq,w3]
  first|rfl|(rw[if_neg (by decide)];rfl)|(rw[if_pos (by decide),if_neg (by decide),if_pos (by decide)];rfl)|(rw[if_pos (by decide),if_neg (by decide),if_neg (by decide),if_neg (by decide)];rfl)|(rw[if_pos (by decide),if_neg (by decide),if_neg (by decide),if_pos (by decide),if_neg (by decide),if_pos (by decide)];rfl)|(rw[if_pos (by decide),if_neg (by decide),if_neg (by decide),if_pos (by decide),if_neg (by decide),if_neg (by decide),if_neg (by decide)];rfl)
def ppt (p n:Nat):Nat:=prodN (qs.map fun t=>if t.2.1=p∧n%t.1=0 then p else 1)
theorem Zl4:(prm5.all fun p=>(List.range 13).all fun n=>(List.range 13).all fun x=>decide (n=0) || decide (x=0) || !decide (n%x=0) || decide (n%(x*p)=0) || !decide (x∈[1,p,p*p,p*p*p]) || decide (x=ppt p n))=true:=by decide +kernel
theorem Zl1:(prm5.all fun p=>(List.range 13).all fun n=>qs.all fun t=>decide (n=0) || !decide (t.2.1=p) || (decide ((ppt p n)%t.1=0) == decide (n%t.1=0)))=true:=by decide +kernel
theorem Zl3:(prm5.all fun p=>(List.range 13).all fun n=>decide (n=0) || (decide (1 < ppt p n) == decide (n%p=0)) && decide (0 < ppt p n) && decide (ppt p n≤n) && decide (ppt p (ppt p n)=ppt p n))=true:=by decide +kernel
theorem Zj5:(prm5.all fun p=>(List.range 13).all fun n=>(List.range 13).all fun k=>decide (n=0) || decide (k=0) || decide (ppt p k < ppt p n) || decide (ppt p k%ppt p n=0))=true:=by decide +kernel
theorem all13 {P:Nat→Bool} (h:(List.range 13).all P=true) {n:Nat} (hn:n≤12):P n=true:=List.all_eq_true.1 h n (List.mem_range.2 (by omega))
theorem Zmv {p n x:Nat} (hp:p∈prm5) (n0:0 < n) (hn:n≤12) (hx:x∈[1,p,p*p,p*p*p]) (x0:0 < x) (h1:n%x=0) (h2:¬ n%(x*p)=0):x=ppt p n:=by
 have hxn:x≤n:=Nat.le_of_dvd n0 (Nat.dvd_of_mod_eq_zero h1)
 have h:=all13 (all13 (List.all_eq_true.1 Zl4 p hp) hn) (show x≤12 by omega)
 simp only[Bool.or_eq_true,decide_eq_true_eq,Bool.not_eq_true', decide_eq_false_iff_not]at h
 rcases h with ((((h|h)|h)|h)|h)|h
 ·
  omega
 ·
  omega
 ·
  exact absurd h1 h
 ·
  exact absurd h h2
 ·
  exact absurd hx h
 ·
  exact h
theorem ZhA {p n:Nat} (hp:p∈prm5) (n0:0 < n) (hn:n≤12) {t:Nat×Nat×Nat} (ht:t∈qs) (e:t.2.1=p):(ppt p n)%t.1=0↔n%t.1=0:=by
 have h:=List.all_eq_true.1 (all13 (List.all_eq_true.1 Zl1 p hp) hn) t ht
 simp only[Bool.or_eq_true,decide_eq_true_eq,Bool.not_eq_true', decide_eq_false_iff_not,beq_iff_eq,decide_eq_decide]at h
 rcases h with (h|h)|h
 ·
  omega
 ·
  exact absurd e h
 ·
  exact h
theorem Zj4 {p n:Nat} (hp:p∈prm5) (n0:0 < n) (hn:n≤12):(1 < ppt p n↔n%p=0)∧0 < ppt p n∧ppt p n≤n∧ppt p (ppt p n)=ppt p n:=by
 have h:=all13 (List.all_eq_true.1 Zl3 p hp) hn
 simp only[Bool.or_eq_true,Bool.and_eq_true,decide_eq_true_eq,beq_iff_eq,decide_eq_decide]at h
 rcases h with h|⟨⟨⟨h1,h2⟩,h3⟩,h4⟩
 ·
  omega
 ·
  exact⟨h1,h2,h3,h4⟩
theorem Zl2 {p n k:Nat} (hp:p∈prm5) (n0:0 < n) (hn:n≤12) (k0:0 < k) (hk:k≤12) (h:ppt p n≤ppt p k):ppt p n∣ppt p k:=by
 have g:=all13 (all13 (List.all_eq_true.1 Zj5 p hp) hn) hk
 simp only[Bool.or_eq_true,decide_eq_true_eq]at g
 rcases g with ((g|g)|g)|g
 ·
  omega
 ·
  omega
 ·
  omega
 ·
  exact Nat.dvd_of_mod_eq_zero g
theorem prm5_mem {p:Nat} (h:p∈prm5):p=2∨p=3∨p=5∨p=7∨p=11:=by simpa [prm5] using h
theorem Zla (a b:Nat):Int.tmod (a:Int) (b:Int)=((a%b:Nat):Int):=by rw[ZeZ (by omega)];rfl
theorem Zey {os:List Int} {p i:Nat} (hp:p∈prm5) (hi:i < os.length) {n:Nat} (hn:rd os (i:Int)=(n:Int)) (n0:0 < n) (n12:n≤12) {r0 r1:List Int} {R:Option (List Int)}
  (h1:ppt p n=1→Zd.l1 os (p:Int) ((i+1:Nat):Int) r0 r1=R) (hl:r1.length≤100000)
  (h2:¬ ppt p n=1→Zd.l5 os (p:Int) (i:Int) ((ppt p n:Nat):Int) (r1.length:Int) r0 (r1++[((ppt p n:Nat):Int)])=R) (hi2:os.length≤100000) :
  Zd.l3 os (p:Int) (i:Int) 1 r0 r1=R:=by
 have p5:=prm5_mem hp
 have hP:=Zli (p:=p) (by omega) (by omega)
 rw[decide_eq_true hp]at hP
 have tt:true=true:=rfl
 have key:∀(c x:Nat),13≤x+c→0 < x→n%x=0→x∈[1,p,p*p,p*p*p]→Zd.l3 os (p:Int) (i:Int) (x:Int) r0 r1=R:=by
  intro c
  induction c with
  | zero =>
   intro x hx x0 hd _
   have:=Nat.le_of_dvd n0 (Nat.dvd_of_mod_eq_zero hd)
   omega
  | succ c ih =>
   intro x hx x0 hd hm
   have hxn:=Nat.le_of_dvd n0 (Nat.dvd_of_mod_eq_zero hd)
   have xp:x*p≤12*12:=Nat.mul_le_mul (by omega) (by omega)
   have w:wrapI ((x:Int)*(p:Int))=((x*p:Nat):Int):=by rw[w64 (by rw[←Int.natCast_mul];omega) (by rw[←Int.natCast_mul];omega),Int.natCast_mul]
   have xp0:0 < x*p:=Nat.mul_pos x0 (by omega)
   have wl:([((x:Nat):Int)]:List Int).length=1:=rfl
   rw[Zd.l3_eq,w,hn,Zla,wn (j:=i) (by omega)]
   by_cases hk:n%(x*p)=0
   ·
    have hle:=Nat.le_of_dvd n0 (Nat.dvd_of_mod_eq_zero hk)
    have hx2:x+1≤x*p:=by
     have:x*2≤x*p:=Nat.mul_le_mul_left x (by omega)
     omega
    have hm' : x*p∈[1,p,p*p,p*p*p]:=by
     simp only[List.mem_cons,List.not_mem_nil,or_false]at hm ⊢
     rcases hm with h|h|h|h
     ·
      rw[h,Nat.one_mul];exact .inr (.inl rfl)
     ·
      rw[h];exact .inr (.inr (.inl rfl))
     ·
      rw[h];exact .inr (.inr (.inr rfl))
     ·
      exfalso
      rw[h]at hle
      rcases p5 with rfl|rfl|rfl|rfl|rfl <;> omega
    have:=ih (x*p) (by omega) xp0 hk hm'
    rw[hk]
    (with_reducible repeat (first|refine Zi (by first|assumption|omega|rfl|exact B_pos (by omega)) ?_|refine Zh (by first|assumption|omega|decide|exact B_not (by omega)) ?_|refine Zf (by first|assumption) ?_|dsimp only))
    exact this
   ·
    have e:=Zmv hp n0 n12 hm x0 hd hk
    have hk' : ¬ ((n%(x*p):Nat):Int)=0:=by omega
    by_cases h:x=1
    ·
     have:=h1 (by rw[←e];exact h)
     (with_reducible repeat (first|refine Zi (by first|assumption|omega|rfl|exact B_pos (by omega)) ?_|refine Zh (by first|assumption|omega|decide|exact B_not (by omega)) ?_|refine Zf (by first|assumption) ?_|dsimp only))
     exact this
    ·
     have:=h2 (by rw[←e];exact h)
     rw[←e]at this
     (with_reducible repeat (first|refine Zi (by first|assumption|omega|rfl|exact B_pos (by omega)) ?_|refine Zh (by first|assumption|omega|decide|exact B_not (by omega)) ?_|refine Zf (by first|assumption) ?_|dsimp only))
     exact this
 exact key 12 1 (by omega) (by omega) (Nat.mod_one n) List.mem_cons_self
theorem Zgg {os:List Int} {p i:Nat} {x:Int} {r0:List Int} (hi:i < 100000):∀(k:Nat) (A B:List Int) (y:Int),A.length=k→A.length+B.length≤100000→(∀b∈B,b < x) →
  ∃A' B', A++B=A' ++ B' ∧ (∀b∈B', b < x)∧(A' = []∨∃A'' z,A' = A'' ++ [z]∧x≤z)∧Zd.l5 os (p:Int) (i:Int) x (k:Int) r0 (A++y :: B)=Zd.l1 os (p:Int) ((i+1:Nat):Int) r0 (A' ++ x :: B'):=by
 intro k
 induction k with
 | zero =>
  intro A B y hA hl hB
  have:=List.eq_nil_of_length_eq_zero hA
  subst this
  refine⟨[],B,rfl,hB,.inl rfl,?_⟩
  have l1:(([]:List Int)++y :: B).length=B.length+1:=by simp
  rw[Zd.l5_eq,wn (j:=i) (by omega)]
  (with_reducible repeat (first|refine Zi (by first|assumption|omega|rfl|exact B_pos (by omega)) ?_|refine Zh (by first|assumption|omega|decide|exact B_not (by omega)) ?_|refine Zf (by first|assumption) ?_|dsimp only))
  rfl
 | succ k ih =>
  intro A B y hA hl hB
  obtain⟨A0,z,rfl⟩:∃A0 z,A=A0++[z]:=by
   rcases List.eq_nil_or_concat A with h|⟨a,b,h⟩
   ·
    rw[h]at hA;cases hA
   ·
    exact⟨a,b,by rw[h,List.concat_eq_append]⟩
  have hA0:A0.length=k:=by rw[List.length_append,List.length_singleton]at hA;omega
  have ll:((A0++[z])++y :: B).length=k+1+(B.length+1):=by rw[List.length_append,hA,List.length_cons]
  have hlz:(A0++[z]).length=k+1:=hA
  have w:wrapI (((k+1:Nat):Int) - 1)=(k:Int):=by rw[w64 (by omega) (by omega)];omega
  have hz:rd ((A0++[z])++y :: B) (k:Int)=z:=by
   rw[Za4 (by omega),List.getElem_append_left (by omega),List.getElem_append_right (by omega)]
   simp[hA0]
  rw[Zd.l5_eq,w,hz,wn (j:=i) (by omega),Int.toNat_natCast]
  by_cases h:z < x
  ·
   obtain⟨A', B', k1,k2,k3,k4⟩:=ih A0 (z :: B) z hA0 (by rw[List.length_cons];omega) (fun b hb=>by
    rcases List.mem_cons.1 hb with rfl|hb
    ·
     exact h
    ·
     exact hB b hb)
   refine⟨A', B', by rw[←k1,List.append_assoc];rfl,k2,k3,?_⟩
   have hs:((A0++[z])++y :: B).set (k+1) z=A0++z :: z :: B:=by
    rw[List.set_append_right _ _ (by omega),hA,Nat.sub_self,List.set_cons_zero,List.append_assoc];rfl
   rw[←k4,hs]
   ((with_reducible repeat (first|refine Zi (by first|assumption|omega|rfl|exact B_pos (by omega)) ?_|refine Zh (by first|assumption|omega|decide|exact B_not (by omega)) ?_|refine Zf (by first|assumption) ?_|dsimp only));first|done|(with_reducible rfl)|simp (disch:=omega) only[w64]|(show False;done))
  ·
   refine⟨A0++[z],B,rfl,hB,.inr ⟨A0,z,rfl,by omega⟩,?_⟩
   have hs:((A0++[z])++y :: B).set (k+1) x=(A0++[z])++x :: B:=by
    rw[List.set_append_right _ _ (by omega),hA,Nat.sub_self,List.set_cons_zero]
   rw[hs]
   ((with_reducible repeat (first|refine Zi (by first|assumption|omega|rfl|exact B_pos (by omega)) ?_|refine Zh (by first|assumption|omega|decide|exact B_not (by omega)) ?_|refine Zf (by first|assumption) ?_|dsimp only));first|done|(with_reducible rfl)|simp (disch:=omega) only[w64]|(show False;done))
theorem Zdu (q:Nat) (a b:List Int):cq q (a++b)=cq q a+cq q b:=List.countP_append
structure Pws (os:List Int) (p i:Nat) (r:List Int):Prop where
 ent:∀x∈r,∃n:Nat,0 < n∧n≤12∧1 < ppt p n∧x=((ppt p n:Nat):Int)
 srt:r.Pairwise fun a b=>b≤a
 cnt:∀t∈qs,t.2.1=p→cq t.1 r=cq t.1 (os.take i)
 len:r.length≤i
theorem Zg7 {os:List Int} (hos:∀n∈os,0 < n∧n≤12) (hl:os.length≤1000) {p:Nat} (hp:p∈prm5) {r0:List Int}:∃r,Zd.l1 os (p:Int) 0 r0 []=Zd.l4 os (p:Int) 0 r0 r∧Pws os p os.length r:=by
 have key:∀(c i:Nat) (r:List Int),i+c=os.length→Pws os p i r→∃r', Zd.l1 os (p:Int) (i:Int) r0 r=Zd.l4 os (p:Int) 0 r0 r' ∧ Pws os p os.length r' := by
  intro c
  induction c with
  | zero =>
   intro i r hi hP
   have:i=os.length:=by omega
   subst this
   refine⟨r,?_,hP⟩
   rw[Zd.l1_eq]
   ((with_reducible repeat (first|refine Zi (by first|assumption|omega|rfl|exact B_pos (by omega)) ?_|refine Zh (by first|assumption|omega|decide|exact B_not (by omega)) ?_|refine Zf (by first|assumption) ?_|dsimp only));first|done|(with_reducible rfl)|simp (disch:=omega) only[w64]|(show False;done))
  | succ c ih =>
   intro i r hi hP
   have hil:i < os.length:=by omega
   obtain⟨a0,a1⟩:=hos _ (ZeT (i:=(i:Int)) (by omega) (by omega))
   obtain⟨n,hn⟩:=Int.eq_ofNat_of_zero_le (Int.le_of_lt a0)
   have n0:0 < n:=by omega
   have n12:n≤12:=by omega
   obtain⟨b1,b2,b3,b4⟩:=Zj4 hp n0 n12
   have tk:os.take (i+1)=os.take i++[(n:Int)]:=by rw[List.take_add_one,List.getElem?_eq_getElem hil,←Za4 hil,hn];rfl
   have one:∀q:Nat,cq q [(n:Int)]=if n%q=0 then 1 else 0:=fun q=>by
    rw[ZcK]
    show 0+_=_
    rw[Nat.zero_add]
    by_cases h:n%q=0
    ·
     rw[if_pos h,if_pos (by omega)]
    ·
     rw[if_neg h,if_neg (by omega)]
   have one' : ∀q:Nat,cq q [((ppt p n:Nat):Int)]=if ppt p n%q=0 then 1 else 0:=fun q=>by
    rw[ZcK]
    show 0+_=_
    rw[Nat.zero_add]
    by_cases h:ppt p n%q=0
    ·
     rw[if_pos h,if_pos (by omega)]
    ·
     rw[if_neg h,if_neg (by omega)]
   have rl:=hP.len
   have goal:∃r', Zd.l3 os (p:Int) (i:Int) 1 r0 r=Zd.l1 os (p:Int) ((i+1:Nat):Int) r0 r' ∧ Pws os p (i+1) r' := by
    by_cases h:ppt p n=1
    ·
     refine⟨r,Zey hp hil hn n0 n12 (fun _=>rfl) (by omega) (fun k=>absurd h k) (by omega),hP.ent,hP.srt,fun t ht e => ?_,by omega⟩
     have hb:=qs_bd t ht
     rw[tk,Zdu,one,hP.cnt t ht e,if_neg fun hz => ?_,Nat.add_zero]
     have:=(ZhA hp n0 n12 ht e).2 hz
     rw[h,Nat.mod_eq_of_lt (by omega)]at this
     omega
    ·
     obtain⟨A', B', k1,k2,k3,k4⟩:=Zgg (os:=os) (p:=p) (i:=i) (x:=((ppt p n:Nat):Int)) (r0:=r0) (by omega) r.length r [] ((ppt p n:Nat):Int) rfl (by rw[List.length_nil];omega) (fun b hb=>by cases hb)
     rw[List.append_nil]at k1
     refine⟨A' ++ ((ppt p n:Nat):Int) :: B', Zey hp hil hn n0 n12 (fun k=>absurd k h) (by omega) (fun _=>k4) (by omega),fun x hx => ?_,?_,fun t ht e => ?_,?_⟩
     ·
      rcases List.mem_append.1 hx with hx|hx
      ·
       exact hP.ent x (by rw[k1];exact List.mem_append_left _ hx)
      ·
       rcases List.mem_cons.1 hx with rfl|hx
       ·
        exact⟨n,n0,n12,by omega,rfl⟩
       ·
        exact hP.ent x (by rw[k1];exact List.mem_append_right _ hx)
     ·
      have hs:=hP.srt
      rw[k1]at hs
      obtain⟨s1,s2,s3⟩:=List.pairwise_append.1 hs
      refine List.pairwise_append.2 ⟨s1,List.pairwise_cons.2 ⟨fun b hb=>Int.le_of_lt (k2 b hb),s2⟩,fun a ha b hb => ?_⟩
      rcases List.mem_cons.1 hb with rfl|hb
      ·
       rcases k3 with k3|⟨A'', z,k3,k5⟩
       ·
        rw[k3]at ha;cases ha
       ·
        rw[k3]at ha s1
        rcases List.mem_append.1 ha with ha|ha
        ·
         have:=(List.pairwise_append.1 s1).2.2 a ha z (List.mem_singleton.2 rfl)
         omega
        ·
         rw[List.mem_singleton.1 ha];exact k5
      ·
       exact s3 a ha b hb
     ·
      rw[tk,Zdu t.1 (os.take i),one,←hP.cnt t ht e,k1,Zdu t.1 A' B', Zdu t.1 A' (_ :: B'),ZcK]
      have hm:=ZhA hp n0 n12 ht e
      by_cases hz:n%t.1=0
      ·
       rw[if_pos hz,if_pos (by have:=hm.2 hz;omega)];omega
      ·
       rw[if_neg hz,if_neg (by intro h';exact hz (hm.1 (by omega)))];omega
     ·
      rw[List.length_append,List.length_cons]
      have:=congrArg List.length k1
      rw[List.length_append]at this
      omega
   obtain⟨r1,g1,g2⟩:=goal
   obtain⟨r', g3,g4⟩:=ih (i+1) r1 (by omega) g2
   refine⟨r', ?_,g4⟩
   rw[←g3,←g1,Zd.l1_eq]
   ((with_reducible repeat (first|refine Zi (by first|assumption|omega|rfl|exact B_pos (by omega)) ?_|refine Zh (by first|assumption|omega|decide|exact B_not (by omega)) ?_|refine Zf (by first|assumption) ?_|dsimp only));first|done|(with_reducible rfl)|simp (disch:=omega) only[w64]|(show False;done))
 exact key os.length 0 [] (by omega) ⟨fun x hx=>(by cases hx),List.Pairwise.nil,fun t _ _=>rfl,Nat.le_refl _⟩
theorem Zg6 {os:List Int} (hos:∀n∈os,0 < n∧n≤12) (hl:os.length≤1000) {p:Nat} (p2:2≤p) (p12:p≤12) (hp:p ∉ prm5) {r0:List Int}:Zd.l1 os (p:Int) 0 r0 []=Zd.l4 os (p:Int) 0 r0 []:=by
 have hP:=Zli p2 p12
 rw[decide_eq_false hp]at hP
 have ff:¬ false=true:=Bool.false_ne_true
 have loop:=up os.length (fun i=>Zd.l1 os (p:Int) (i:Int) r0 []) (fun i hi=>by
  obtain⟨a0,a1⟩:=hos _ (ZeT (i:=(i:Int)) (by omega) (by omega))
  have w:wrapI (1*(p:Int))=(p:Int):=by rw[w64 (by omega) (by omega)];omega
  have e1:(1:Int)=1:=rfl
  rw[Zd.l1_eq]
  (with_reducible repeat (first|refine Zi (by first|assumption|omega|rfl|exact B_pos (by omega)) ?_|refine Zh (by first|assumption|omega|decide|exact B_not (by omega)) ?_|refine Zf (by first|assumption) ?_|dsimp only))
  rw[Zd.l3_eq,w,wn (j:=i) (by omega)]
  by_cases h:Int.tmod (rd os (i:Int)) (p:Int)=0
  ·
   ((with_reducible repeat (first|refine Zi (by first|assumption|omega|rfl|exact B_pos (by omega)) ?_|refine Zh (by first|assumption|omega|decide|exact B_not (by omega)) ?_|refine Zf (by first|assumption) ?_|dsimp only));first|done|(with_reducible rfl)|simp (disch:=omega) only[w64]|(show False;done))
  ·
   ((with_reducible repeat (first|refine Zi (by first|assumption|omega|rfl|exact B_pos (by omega)) ?_|refine Zh (by first|assumption|omega|decide|exact B_not (by omega)) ?_|refine Zf (by first|assumption) ?_|dsimp only));first|done|(with_reducible rfl)|simp (disch:=omega) only[w64]|(show False;done)))
 have loop:Zd.l1 os (p:Int) 0 r0 []=Zd.l1 os (p:Int) (os.length:Int) r0 []:=loop
 rw[loop,Zd.l1_eq]
 ((with_reducible repeat (first|refine Zi (by first|assumption|omega|rfl|exact B_pos (by omega)) ?_|refine Zh (by first|assumption|omega|decide|exact B_not (by omega)) ?_|refine Zf (by first|assumption) ?_|dsimp only));first|done|(with_reducible rfl)|simp (disch:=omega) only[w64]|(show False;done))
end Go.Proofs.Ytdamfbighdkcbaa.V
namespace Go.Proofs.Ytdamfbighdkcbaa.V
open Go.RowKit Go.Proofs.Ytdamfbighdkcbaa.D Go.Proofs.Ytdamfbighdkcbaa.P
theorem ZjB {q:Nat}:∀{L:List Int},(L.Pairwise fun x y=>y∣x)→∀i:Nat,i < L.length→(rd L (i:Int)%(q:Int)=0↔i < cq q L)
 | [],_,i,hi=>absurd hi (Nat.not_lt_zero _)
 | x :: L,h,i,hi=>by
  obtain⟨h1,h2⟩:=List.pairwise_cons.1 h
  rw[List.length_cons]at hi
  by_cases e:x%(q:Int)=0
  ·
   rw[ZcK,if_pos e]
   cases i with
   | zero=>rw[rd_c0];exact⟨fun _=>by omega,fun _=>e⟩
   | succ i=>rw[rd_cs,ZjB h2 i (by omega)];omega
  ·
   have hz:cq q L=0:=List.countP_eq_zero.2 fun y hy k=>e (Zhc (h1 y hy) (by simpa using k))
   rw[ZcK,if_neg e,hz]
   cases i with
   | zero=>rw[rd_c0];exact⟨fun k=>absurd k e,fun k=>by omega⟩
   | succ i =>
    rw[rd_cs]
    refine⟨fun k => ?_,fun k=>by omega⟩
    exact absurd (Zhc (h1 _ (ZeT (by omega) (by omega))) k) e
theorem Zjy {q : Nat}:∀{L:List Int} {c:Nat},c≤L.length→(∀i:Nat,i < L.length→(rd L (i:Int)%(q:Int)=0↔i < c))→cq q L=c
  | [], c, hc, _ => by rw[List.length_nil]at hc;have:c=0:=by omega
                       subst this;rfl
  | x :: L,c,hc,h=>by
    rw[List.length_cons]at hc
    have h0:=h 0 (by rw[List.length_cons];omega)
    rw[rd_c0]at h0
    rw[ZcK]
    cases c with
    | zero =>
      rw[if_neg fun k=>absurd (h0.1 k) (by omega),Zjy (c:=0) (by omega) fun i hi => ?_]
      have:=h (i+1) (by rw[List.length_cons];omega)
      rw[rd_cs]at this
      rw[this];omega
    | succ c =>
      rw[if_pos (h0.2 (by omega)),Zjy (c:=c) (by omega) fun i hi => ?_]
      have:=h (i+1) (by rw[List.length_cons];omega)
      rw[rd_cs]at this
      rw[this];omega
def rd1 (o:List Int) (i:Nat):Int:=if i < o.length then rd o (i:Int)else 1
def evp (os:List Int) (p i:Nat):Nat:=prodN (qs.map fun t=>if t.2.1=p∧i < cq t.1 os then p else 1)
def ent (os:List Int) (P i:Nat):Nat:=prodN (qs.map fun t=>if t.2.1 < P∧i < cq t.1 os then t.2.1 else 1)
theorem ZfB (os:List Int) (P i:Nat):ent os (P+1) i=ent os P i*evp os P i:=by
 have : ∀l:List (Nat×Nat×Nat),prodN (l.map fun t=>if t.2.1 < P+1∧i < cq t.1 os then t.2.1 else 1)=prodN (l.map fun t=>if t.2.1 < P∧i < cq t.1 os then t.2.1 else 1)*prodN (l.map fun t=>if t.2.1=P∧i < cq t.1 os then P else 1):=by
  intro l
  induction l with
  | nil=>rfl
  | cons t l ih =>
   rw[List.map_cons,List.map_cons,List.map_cons,prodN,prodN,prodN,ih]
   have e:(if t.2.1 < P+1∧i < cq t.1 os then t.2.1 else 1)=(if t.2.1 < P∧i < cq t.1 os then t.2.1 else 1)*(if t.2.1=P∧i < cq t.1 os then P else 1):=by
    by_cases h:i < cq t.1 os
    ·
     by_cases h1:t.2.1 < P
     ·
      rw[if_pos ⟨by omega,h⟩,if_pos ⟨h1,h⟩,if_neg (by omega),Nat.mul_one]
     ·
      by_cases h2:t.2.1=P
      ·
       rw[if_pos ⟨by omega,h⟩,if_neg (by omega),if_pos ⟨h2,h⟩,Nat.one_mul,h2]
      ·
       rw[if_neg (by omega),if_neg (by omega),if_neg (by omega)]
    ·
     rw[if_neg (by omega),if_neg (by omega),if_neg (by omega)]
   rw[e]
   simp only[Nat.mul_assoc,Nat.mul_comm,Nat.mul_left_comm]
 exact this qs
theorem Zfm {f g:Nat×Nat×Nat→Nat}:∀l:List (Nat×Nat×Nat),(∀t,f t≤g t)→prodN (l.map f)≤prodN (l.map g)
 | [],_=>Nat.le_refl _
 | t :: l,h=>Nat.mul_le_mul (h t) (Zfm l h)
theorem ZgP {f g:Nat×Nat×Nat→Nat}:∀l:List (Nat×Nat×Nat),(∀t,f t∣g t)→prodN (l.map f)∣prodN (l.map g)
 | [],_=>Nat.dvd_refl _
 | t :: l,h=>Nat.mul_dvd_mul (h t) (ZgP l h)
theorem Zh5 (os:List Int) (P i:Nat):0 < ent os P i∧ent os P i≤27720:=by
 constructor
 ·
  refine ZgQ _ fun x hx => ?_
  obtain⟨t,ht,rfl⟩:=List.mem_map.1 hx
  have:=qs_bd t ht
  split <;> omega
 ·
  have h:=Zfm (f:=fun t=>if t.2.1 < P∧i < cq t.1 os then t.2.1 else 1) (g:=fun t=>if t.2.1=0 then 1 else t.2.1) qs fun t=>by split <;> split <;> omega
  exact h
theorem Zj8 {os:List Int} {p:Nat} (hp:p∈prm5) {r:List Int} (h:Pws os p os.length r) (i:Nat):rd1 r i=((evp os p i:Nat):Int):=by
 have hc:∀t∈qs,t.2.1=p→cq t.1 r=cq t.1 os:=fun t ht e=>by rw[h.cnt t ht e,List.take_length]
 have hd:r.Pairwise fun x y=>y∣x:=List.Pairwise.imp_of_mem (fun {a b} ha hb hab=>by
  obtain⟨n,n0,n12,_,rfl⟩:=h.ent a ha
  obtain⟨k,k0,k12,_,rfl⟩:=h.ent b hb
  exact Int.natCast_dvd_natCast.2 (Zl2 hp k0 k12 n0 n12 (by omega))) h.srt
 unfold rd1
 by_cases hi:i < r.length
 ·
  rw[if_pos hi]
  obtain⟨n,n0,n12,n1,e⟩:=h.ent _ (ZeT (i:=(i:Int)) (by omega) (by omega))
  have b:=Zj4 hp n0 n12
  rw[e]
  congr 1
  rw[←b.2.2.2]
  show prodN (qs.map fun t=>if t.2.1=p∧(ppt p n)%t.1=0 then p else 1)=prodN (qs.map fun t=>if t.2.1=p∧i < cq t.1 os then p else 1)
  congr 1
  refine List.map_congr_left fun t ht => ?_
  by_cases hp' : t.2.1=p
  ·
   have k:=ZjB (q:=t.1) hd i hi
   rw[hc t ht hp', e]at k
   by_cases k2:i < cq t.1 os
   ·
    rw[if_pos ⟨hp', by have:=k.2 k2;omega⟩,if_pos ⟨hp', k2⟩]
   ·
    rw[if_neg (fun hh=>k2 (k.1 (by have:=hh.2;omega))),if_neg fun hh=>k2 hh.2]
  ·
   rw[if_neg fun hh=>hp' hh.1,if_neg fun hh=>hp' hh.1]
 ·
  rw[if_neg hi]
  have:evp os p i=prodN (qs.map fun _=>1):=by
   unfold evp
   congr 1
   refine List.map_congr_left fun t ht=>if_neg fun hh => ?_
   have:=cq_le t.1 r
   rw[hc t ht hh.1]at this
   omega
  rw[this]
  rfl
structure Out (os:List Int) (P:Nat) (o:List Int):Prop where
 val:∀i:Nat,rd1 o i=((ent os P i:Nat):Int)
 up:∀t∈qs,t.2.1 < P→cq t.1 os≤o.length
 dn:∀i:Nat,i < o.length→∃t∈qs,t.2.1 < P∧i < cq t.1 os
 len:o.length≤os.length
theorem Zmx {o:List Int} {x:Int} {i:Nat} (h:i < o.length):rd (o++[x]) (i:Int)=rd o (i:Int):=by
 rw[Za4 (by rw[List.length_append];omega),Za4 h,List.getElem_append_left h]
theorem Zj9 (o:List Int) (x:Int):rd (o++[x]) (o.length:Int)=x:=by
 rw[Za4 (by simp),List.getElem_append_right (Nat.le_refl _)];simp
theorem Zgh {os o r:List Int} {p:Nat} (hol:o.length≤1000) (hrl:r.length≤1000) (p12:p≤12) (ho:∀i:Nat,0≤rd1 o i∧rd1 o i≤27720) (hr:∀i:Nat,0≤rd1 r i∧rd1 r i≤27720) :
  ∃o', Zd.l4 os (p:Int) 0 o r=Zd.l0 os ((p+1:Nat):Int) o' ∧ o'.length=max o.length r.length∧∀i:Nat,rd1 o' i=rd1 o i*rd1 r i:=by
 have key:∀(c i:Nat) (o1:List Int),i+c=r.length→o1.length=max o.length i→(∀j:Nat,rd1 o1 j=rd1 o j*if j < i then rd1 r j else 1)→∃o', Zd.l4 os (p:Int) (i:Int) o1 r=Zd.l0 os ((p+1:Nat):Int) o' ∧ o'.length=max o.length r.length∧∀i:Nat,rd1 o' i=rd1 o i*rd1 r i:=by
  intro c
  induction c with
  | zero =>
   intro i o1 hi hl hv
   have:i=r.length:=by omega
   subst this
   refine⟨o1,?_,hl,fun j => ?_⟩
   ·
    rw[Zd.l4_eq,wn (j:=p) (by omega)]
    ((with_reducible repeat (first|refine Zi (by first|assumption|omega|rfl|exact B_pos (by omega)) ?_|refine Zh (by first|assumption|omega|decide|exact B_not (by omega)) ?_|refine Zf (by first|assumption) ?_|dsimp only));first|done|(with_reducible rfl)|simp (disch:=omega) only[w64]|(show False;done))
   ·
    rw[hv j]
    by_cases h:j < r.length
    ·
     rw[if_pos h]
    ·
     rw[if_neg h];unfold rd1;rw[if_neg (show ¬ j < r.length from h)]
  | succ c ih =>
   intro i o1 hi hl hv
   have hir:i < r.length:=by omega
   have vr:rd r (i:Int)=rd1 r i:=by unfold rd1;rw[if_pos hir]
   obtain⟨r0,r1⟩:=hr i
   obtain⟨o0,o1'⟩:=ho i
   have hvi:=hv i
   rw[if_neg (Nat.lt_irrefl i),Int.mul_one]at hvi
   have pb:0≤rd1 o i*rd1 r i∧rd1 o i*rd1 r i≤27720*27720:=by
    constructor
    ·
     exact Int.mul_nonneg o0 r0
    ·
     exact Int.mul_le_mul o1' r1 r0 (by omega)
   have w:wrapI (rd1 o i*rd1 r i)=rd1 o i*rd1 r i:=w64 (by omega) (by omega)
   by_cases he:i=o1.length
   ·
    have lone:([1]:List Int).length=1:=rfl
    have hla:(o1++[1]).length=i+1:=by rw[List.length_append,lone,←he]
    have hre:rd (o1++[1]) (i:Int)=rd1 o i:=by rw[←hvi,he,Zj9];unfold rd1;rw[if_neg (Nat.lt_irrefl _)]
    have hset:(o1++[1]).set i (rd1 o i*rd1 r i)=o1++[rd1 o i*rd1 r i]:=by
     rw[List.set_append_right _ _ (by omega),he,Nat.sub_self,List.set_cons_zero]
    obtain ⟨o', k1,k2⟩:=ih (i+1) (o1++[rd1 o i*rd1 r i]) (by omega) (by rw[List.length_append,List.length_singleton];omega) (fun j=>by
     by_cases hj:j < i
     ·
      have h1:rd1 (o1++[rd1 o i*rd1 r i]) j=rd1 o1 j:=by
       show(if j < (o1++[rd1 o i*rd1 r i]).length then rd (o1++[rd1 o i*rd1 r i]) (j:Int)else 1)=if j < o1.length then rd o1 (j:Int)else 1
       rw[if_pos (show j < (o1++[rd1 o i*rd1 r i]).length by rw[List.length_append];omega),if_pos (show j < o1.length by omega),Zmx (by omega)]
      rw[h1,hv j,if_pos hj,if_pos (by omega)]
     ·
      by_cases hj2:j=i
      ·
       subst hj2
       rw[if_pos (by omega)]
       show(if j < (o1++[rd1 o j*rd1 r j]).length then rd (o1++[rd1 o j*rd1 r j]) (j:Int)else 1)=_
       rw[if_pos (by rw[List.length_append,List.length_singleton];omega)]
       conv=>lhs;rw[he]
       rw[Zj9,←he]
      ·
       rw[if_neg (by omega),Int.mul_one]
       have h2:=hv j
       rw[if_neg hj,Int.mul_one]at h2
       rw[←h2]
       unfold rd1
       rw[if_neg (by rw[List.length_append,List.length_singleton];omega),if_neg (by omega)])
    refine⟨o', ?_,k2⟩
    have he' : (i:Int)=(o1.length:Int):=by omega
    rw[←k1,Zd.l4_eq,hre,vr,w,wn (j:=i) (by omega),Int.toNat_natCast,hset]
    ((with_reducible repeat (first|refine Zi (by first|assumption|omega|rfl|exact B_pos (by omega)) ?_|refine Zh (by first|assumption|omega|decide|exact B_not (by omega)) ?_|refine Zf (by first|assumption) ?_|dsimp only));first|done|(with_reducible rfl)|simp (disch:=omega) only[w64]|(show False;done))
   ·
    have hio:i < o1.length:=by omega
    have hre:rd o1 (i:Int)=rd1 o i:=by rw[←hvi];unfold rd1;rw[if_pos hio]
    obtain ⟨o', k1,k2⟩:=ih (i+1) (o1.set i (rd1 o i*rd1 r i)) (by omega) (by rw[List.length_set];omega) (fun j=>by
     by_cases hj:j=i
     ·
      subst hj
      rw[if_pos (by omega)]
      unfold rd1
      rw[if_pos (by rw[List.length_set];exact hio),Za5 hio]
     ·
      have h1:rd1 (o1.set i (rd1 o i*rd1 r i)) j=rd1 o1 j:=by unfold rd1;rw[List.length_set,Zbb hj]
      rw[h1,hv j]
      by_cases h:j < i
      ·
       rw[if_pos h,if_pos (by omega)]
      ·
       rw[if_neg h,if_neg (by omega)])
    refine⟨o', ?_,k2⟩
    have he' : ¬ (i:Int)=(o1.length:Int):=by omega
    rw[←k1,Zd.l4_eq,hre,vr,w,wn (j:=i) (by omega),Int.toNat_natCast]
    ((with_reducible repeat (first|refine Zi (by first|assumption|omega|rfl|exact B_pos (by omega)) ?_|refine Zh (by first|assumption|omega|decide|exact B_not (by omega)) ?_|refine Zf (by first|assumption) ?_|dsimp only));first|done|(with_reducible rfl)|simp (disch:=omega) only[w64]|(show False;done))
 exact key r.length 0 o (by omega) (by omega) fun j=>by rw[if_neg (Nat.not_lt_zero _),Int.mul_one]
theorem Zjr (o:List Int) (hl:o.length≤1000):Zd.l2 0 (wrapI ((o.length:Int) - 1)) o=some o.reverse:=by
 have key:∀(c i:Nat) (l:List Int),o.length≤2*i+1+c→2*i≤o.length+1→l.length=o.length→(∀j:Nat,j < o.length→rd l (j:Int)=if j < i∨o.length≤j+i then rd o ((o.length - 1 - j:Nat):Int)else rd o (j:Int))→Zd.l2 (i:Int) ((o.length:Int) - 1 - (i:Int)) l=some o.reverse:=by
  intro c
  induction c with
  | zero =>
   intro i l hc hi hll hv
   have hne:¬ (i:Int) < (o.length:Int) - 1 - (i:Int):=by omega
   rw[Zd.l2_eq,if_neg hne]
   congr 1
   refine Zh8 (by rw[List.length_reverse,hll]) fun z z0 z1 => ?_
   obtain⟨j,rfl⟩:=Int.eq_ofNat_of_zero_le z0
   have hj:j < o.length:=by omega
   have hr:rd o.reverse (j:Int)=rd o ((o.length - 1 - j:Nat):Int):=by rw[Za4 (by rw[List.length_reverse];exact hj),Za4 (by omega),List.getElem_reverse]
   rw[hv j hj,hr]
   split
   ·
    rfl
   ·
    congr 1;omega
  | succ c ih =>
   intro i l hc hi hll hv
   by_cases hlt:(i:Int) < (o.length:Int) - 1 - (i:Int)
   ·
    obtain⟨k,hk⟩:∃k:Nat,k=o.length - 1 - i:=⟨_,rfl⟩
    have hkI:(o.length:Int) - 1 - (i:Int)=(k:Int):=by omega
    have hik:i≠k:=by omega
    have w:wrapI ((k:Int) - 1)=(o.length:Int) - 1 - ((i+1:Nat):Int):=by rw[w64 (by omega) (by omega)];omega
    have vi:=hv i (by omega)
    have vk:=hv k (by omega)
    rw[if_neg (by omega)]at vi vk
    have:=ih (i+1) ((l.set k (rd l (i:Int))).set i (rd l (k:Int))) (by omega) (by omega) (by rw[List.length_set,List.length_set];exact hll) (fun j hj=>by
     by_cases ji:j=i
     ·
      subst ji
      rw[Za5 (by rw[List.length_set];omega),vk,if_pos (by omega),hk]
     ·
      rw[Zbb ji]
      by_cases jk:j=k
      ·
       subst jk
       rw[Za5 (by omega),vi,if_pos (by omega)]
       congr 1;omega
      ·
       rw[Zbb jk,hv j hj]
       by_cases h:j < i∨o.length≤j+i
       ·
        rw[if_pos h,if_pos (by omega)]
       ·
        rw[if_neg h,if_neg (by omega)])
    rw[Zd.l2_eq,hkI,w,wn (j:=i) (by omega),Int.toNat_natCast,Int.toNat_natCast,this]
    have hl1:(l.set k (rd l (i:Int))).length=o.length:=by rw[List.length_set];exact hll
    ((with_reducible repeat (first|refine Zi (by first|assumption|omega|rfl|exact B_pos (by omega)) ?_|refine Zh (by first|assumption|omega|decide|exact B_not (by omega)) ?_|refine Zf (by first|assumption) ?_|dsimp only));first|done|(with_reducible rfl)|simp (disch:=omega) only[w64]|(show False;done))
   ·
    exact ih i l (by omega) hi hll hv
 have e:wrapI ((o.length:Int) - 1)=(o.length:Int) - 1 - ((0:Nat):Int):=by rw[w64 (by omega) (by omega)];omega
 rw[e]
 exact key o.length 0 o (by omega) (by omega) rfl fun j hj=>by rw[if_neg (by omega)]
def bl:List Bool:=[true,false]
theorem Zd2 (b:Bool):b∈bl:=by cases b <;> decide
def fb (a b c d e f g h:Bool):Nat:=prodN [if a then 2 else 1,if b then 2 else 1,if c then 2 else 1,if d then 3 else 1,if e then 3 else 1,if f then 5 else 1,if g then 7 else 1,if h then 11 else 1]
theorem Zmm:(bl.all fun a=>bl.all fun b=>bl.all fun c=>bl.all fun d=>bl.all fun e=>bl.all fun f=>bl.all fun g=>bl.all fun h=>b && !a || c && !b || e && !d || (
  (decide (fb a b c d e f g h%2=0) == a) && (decide (fb a b c d e f g h%4=0) == b) && (decide (fb a b c d e f g h%8=0) == c) && (decide (fb a b c d e f g h%3=0) == d) && (decide (fb a b c d e f g h%9=0) == e) && (decide (fb a b c d e f g h%5=0) == f) && (decide (fb a b c d e f g h%7=0) == g) && (decide (fb a b c d e f g h%11=0) == h) &&
  ((List.range 13).all fun m=>decide (m=0) || (a && !decide (m%2=0)) || (b && !decide (m%4=0)) || (c && !decide (m%8=0)) || (d && !decide (m%3=0)) || (e && !decide (m%9=0)) || (f && !decide (m%5=0)) || (g && !decide (m%7=0)) || (h && !decide (m%11=0)) || decide (m%fb a b c d e f g h=0))))=true:=by decide +kernel
theorem Zmk (os:List Int) (i:Nat):ent os 13 i=fb (decide (i < cq 2 os)) (decide (i < cq 4 os)) (decide (i < cq 8 os)) (decide (i < cq 3 os)) (decide (i < cq 9 os)) (decide (i < cq 5 os)) (decide (i < cq 7 os)) (decide (i < cq 11 os)):=by
 simp[ent,fb,qs,prodN]
theorem Zhb {a b:Nat} (h:∀z:Int,z%(a:Int)=0→z%(b:Int)=0) (os:List Int):cq a os≤cq b os:=List.countP_mono_left fun x _ hx=>by simpa using h x (by simpa using hx)
theorem Zgo {m:Int} (m2:2≤m) (m12:m≤12) {os:List Int} (hos:∀n∈os,0 < n∧n∣m) (i:Nat):(∀t∈qs,ent os 13 i%t.1=0↔i < cq t.1 os)∧((ent os 13 i:Nat):Int)∣m:=by
 have some_dvd:∀q:Nat,i < cq q os→m%(q:Int)=0:=fun q h=>by
  have:∃x∈os,decide (x%(q:Int)=0)=true:=List.countP_pos_iff.1 (show 0 < os.countP _ by unfold cq at h;omega)
  obtain⟨x,hx,k⟩:=this
  exact Zhc (hos x hx).2 (of_decide_eq_true k)
 have h:=List.all_eq_true.1 (List.all_eq_true.1 (List.all_eq_true.1 (List.all_eq_true.1 (List.all_eq_true.1 (List.all_eq_true.1 (List.all_eq_true.1 (List.all_eq_true.1 Zmm (decide (i < cq 2 os)) (Zd2 _)) (decide (i < cq 4 os)) (Zd2 _)) (decide (i < cq 8 os)) (Zd2 _)) (decide (i < cq 3 os)) (Zd2 _)) (decide (i < cq 9 os)) (Zd2 _)) (decide (i < cq 5 os)) (Zd2 _)) (decide (i < cq 7 os)) (Zd2 _)) (decide (i < cq 11 os)) (Zd2 _)
 rw[←Zmk]at h
 have m1:=Zhb (a:=4) (b:=2) (fun z hz=>by omega) os
 have m2' := Zhb (a:=8) (b:=4) (fun z hz=>by omega) os
 have m3:=Zhb (a:=9) (b:=3) (fun z hz=>by omega) os
 obtain⟨M,rfl⟩:=Int.eq_ofNat_of_zero_le (show 0≤m by omega)
 simp only[Bool.or_eq_true,Bool.and_eq_true,Bool.not_eq_true', decide_eq_true_eq,decide_eq_false_iff_not,beq_iff_eq,decide_eq_decide]at h
 rcases h with ((⟨h1,h2⟩|⟨h1,h2⟩)|⟨h1,h2⟩)|h
 ·
  omega
 ·
  omega
 ·
  omega
 ·
  obtain⟨⟨⟨⟨⟨⟨⟨⟨h2,h4⟩,h8⟩,h3⟩,h9⟩,h5⟩,h7⟩,h11⟩,hm⟩:=h
  refine⟨fun t ht => ?_,?_⟩
  ·
   simp only[qs,List.mem_cons,List.not_mem_nil,or_false]at ht
   rcases ht with rfl|rfl|rfl|rfl|rfl|rfl|rfl|rfl
   ·
    exact h2
   ·
    exact h4
   ·
    exact h8
   ·
    exact h3
   ·
    exact h9
   ·
    exact h5
   ·
    exact h7
   ·
    exact h11
  ·
   have hm:=all13 hm (show M≤12 by omega)
   have s:=fun q hq=>some_dvd q hq
   have s2:=some_dvd 2;have s4:=some_dvd 4;have s8:=some_dvd 8;have s3:=some_dvd 3;have s9:=some_dvd 9;have s5:=some_dvd 5;have s7:=some_dvd 7;have s11:=some_dvd 11
   simp only[Bool.or_eq_true,Bool.and_eq_true,Bool.not_eq_true', decide_eq_true_eq,decide_eq_false_iff_not]at hm
   refine Int.natCast_dvd_natCast.2 (Nat.dvd_of_mod_eq_zero ?_)
   rcases hm with ((((((((hm|⟨g,k⟩)|⟨g,k⟩)|⟨g,k⟩)|⟨g,k⟩)|⟨g,k⟩)|⟨g,k⟩)|⟨g,k⟩)|⟨g,k⟩)|hm
   ·
    omega
   ·
    have:=s2 g;omega
   ·
    have:=s4 g;omega
   ·
    have:=s8 g;omega
   ·
    have:=s3 g;omega
   ·
    have:=s9 g;omega
   ·
    have:=s5 g;omega
   ·
    have:=s7 g;omega
   ·
    have:=s11 g;omega
   ·
    exact hm
theorem Zmf {m:Int} (m2:2≤m) (m12:m≤12) {os:List Int} (hos:∀n∈os,0 < n∧n∣m) (hl:os.length≤1000):∃L,Zd.f os=some L∧Chn m L∧(∀t∈qs,cq t.1 L=cq t.1 os)∧L.length≤os.length:=by
 have ho12:∀n∈os,0 < n∧n≤12:=fun n hn=>⟨(hos n hn).1,by have:=Int.le_of_dvd (by omega) (hos n hn).2;omega⟩
 have key:∀(c P:Nat) (o:List Int),P+c=13→2≤P→Out os P o→∃o', Zd.l0 os (P:Int) o=Zd.l0 os 13 o' ∧ Out os 13 o' := by
  intro c
  induction c with
  | zero =>
   intro P o hP _ hO
   have:P=13:=by omega
   subst this
   exact⟨o,rfl,hO⟩
  | succ c ih =>
   intro P o hP P2 hO
   have ol:=hO.len
   have hv:∀i:Nat,0≤rd1 o i∧rd1 o i≤27720:=fun i=>by rw[hO.val i];have:=Zh5 os P i;omega
   have goal:∃o', Zd.l0 os (P:Int) o=Zd.l0 os ((P+1:Nat):Int) o' ∧ Out os (P+1) o' := by
    have hs:Zd.l0 os (P:Int) o=Zd.l1 os (P:Int) 0 o []:=by
     rw[Zd.l0_eq];((with_reducible repeat (first|refine Zi (by first|assumption|omega|rfl|exact B_pos (by omega)) ?_|refine Zh (by first|assumption|omega|decide|exact B_not (by omega)) ?_|refine Zf (by first|assumption) ?_|dsimp only));first|done|(with_reducible rfl)|simp (disch:=omega) only[w64]|(show False;done))
    by_cases hp:P∈prm5
    ·
     obtain⟨r,k1,k2⟩:=Zg7 ho12 hl hp (r0:=o)
     have rl:=k2.len
     have ev_bd:∀i,evp os P i≤27720:=fun i=>by
      have h1:=ZfB os P i
      have h2:=Zh5 os (P+1) i
      have h3:=Zh5 os P i
      have:1*evp os P i≤ent os P i*evp os P i:=Nat.mul_le_mul_right _ (by omega)
      omega
     obtain⟨o', g1,g2,g3⟩:=Zgh (os:=os) (o:=o) (r:=r) (p:=P) (by omega) (by omega) (by omega) hv (fun i=>by rw[Zj8 hp k2 i];have:=ev_bd i;omega)
     refine⟨o', by rw[hs,k1,g1],fun i=>by rw[g3 i,hO.val i,Zj8 hp k2 i,ZfB,Int.natCast_mul],fun t ht h => ?_,fun i hi => ?_,by omega⟩
     ·
      rcases Nat.lt_or_ge t.2.1 P with h' | h'
      ·
       have:=hO.up t ht h';omega
      ·
       have e:t.2.1=P:=by omega
       have:=cq_le t.1 r
       rw[k2.cnt t ht e,List.take_length]at this
       omega
     ·
      by_cases h:i < o.length
      ·
       obtain⟨t,ht,a,b⟩:=hO.dn i h
       exact⟨t,ht,by omega,b⟩
      ·
       have hir:i < r.length:=by omega
       have pp:(P,P,1)∈qs:=by
        rcases prm5_mem hp with h|h|h|h|h <;> rw[h] <;> decide
       refine⟨(P,P,1),pp,Nat.lt_succ_self P,?_⟩
       have e:=k2.cnt _ pp rfl
       rw[List.take_length]at e
       show i < cq P os
       rw[show cq P os=cq P r from e.symm,Zll fun x hx => ?_]
       ·
        exact hir
       ·
        obtain⟨n,n0,n12,n1,rfl⟩:=k2.ent x hx
        have:=((Zj4 hp n0 n12).1.1 n1)
        have:=(ZhA hp n0 n12 pp rfl).2 this
        have this:ppt P n%P=0:=this
        omega
    ·
     obtain⟨o', g1,g2,g3⟩:=Zgh (os:=os) (o:=o) (r:=[]) (p:=P) (by omega) (by simp) (by omega) hv (fun i=>by unfold rd1;rw[if_neg (by simp)];omega)
     have noq:∀t∈qs,t.2.1≠P:=fun t ht e=>hp (by
      simp only[qs,List.mem_cons,List.not_mem_nil,or_false]at ht
      rcases ht with rfl|rfl|rfl|rfl|rfl|rfl|rfl|rfl <;> (rw[←e];decide))
     have ev1:∀i,evp os P i=1:=fun i=>by
      have:evp os P i=prodN (qs.map fun _=>1):=by
       unfold evp
       congr 1
       exact List.map_congr_left fun t ht=>if_neg fun h=>noq t ht h.1
      rw[this];rfl
     refine⟨o', by rw[hs,Zg6 ho12 hl P2 (by omega) hp,g1],fun i=>by rw[g3 i,hO.val i,ZfB,ev1 i,Nat.mul_one];unfold rd1;rw[if_neg (by simp),Int.mul_one],fun t ht h => ?_,fun i hi => ?_,by rw[g2,List.length_nil];omega⟩
     ·
      have:=hO.up t ht (by have:=noq t ht;omega)
      omega
     ·
      obtain⟨t,ht,a,b⟩:=hO.dn i (by rw[g2,List.length_nil]at hi;omega)
      exact⟨t,ht,by omega,b⟩
   obtain⟨o1,g1,g2⟩:=goal
   obtain⟨o', g3,g4⟩:=ih (P+1) o1 (by omega) (by omega) g2
   exact⟨o', by rw[g1,g3],g4⟩
 obtain⟨o,k1,k2⟩:=key 11 2 [] (by omega) (Nat.le_refl _) ⟨fun i=>by
  unfold rd1
  rw[if_neg (by simp)]
  have:ent os 2 i=prodN (qs.map fun _=>1):=by
   unfold ent
   congr 1
   all_goals exact List.map_congr_left fun t ht=>if_neg fun h=>by have:=qs_bd t ht;omega
  exact congrArg Int.ofNat this.symm,fun t ht h=>(by have:=qs_bd t ht;omega),fun i hi=>(by simp at hi),by simp⟩
 have k1:Zd.l0 os 2 []=Zd.l0 os 13 o:=k1
 have ol:=k2.len
 have val:∀i:Nat,i < o.length→rd o (i:Int)=((ent os 13 i:Nat):Int):=fun i hi=>by
  have:=k2.val i
  unfold rd1 at this
  rwa[if_pos hi]at this
 have cnt:∀t∈qs,cq t.1 o=cq t.1 os:=fun t ht=>Zjy (k2.up t ht (by
  simp only[qs,List.mem_cons,List.not_mem_nil,or_false]at ht
  rcases ht with rfl|rfl|rfl|rfl|rfl|rfl|rfl|rfl <;> decide)) fun i hi=>by
  rw[val i hi,←(Zgo m2 m12 hos i).1 t ht]
  omega
 refine⟨o.reverse,?_,⟨fun x hx => ?_,?_⟩,fun t ht => ?_,by rw[List.length_reverse];exact ol⟩
 ·
  rw[Zd.f_eq,k1,Zd.l0_eq,if_neg (by decide)]
  exact Zjr o (by omega)
 ·
  obtain⟨i,i0,i1⟩:∃i:Nat,i < o.length∧x=rd o (i:Int):=by
   obtain⟨n,hn,e⟩:=List.mem_iff_getElem.1 (List.mem_reverse.1 hx)
   exact⟨n,hn,by rw[Za4 hn,e]⟩
  obtain⟨t,ht,a,b⟩:=k2.dn i i0
  obtain⟨f1,f2⟩:=Zgo m2 m12 hos i
  have hd:=(f1 t ht).2 b
  have e0:=(Zh5 os 13 i).1
  have hq:=qs_bd t ht
  rw[i1,val i i0]
  refine⟨?_,f2⟩
  have:=Nat.le_of_dvd e0 (Nat.dvd_of_mod_eq_zero hd)
  omega
 ·
  rw[List.pairwise_reverse]
  refine List.pairwise_iff_getElem.2 fun i j hi hj hij => ?_
  rw[←Za4 hi,←Za4 hj,val i hi,val j hj]
  refine Int.natCast_dvd_natCast.2 (ZgP qs fun t => ?_)
  by_cases h:t.2.1 < 13∧j < cq t.1 os
  ·
   rw[if_pos h,if_pos ⟨h.1,by omega⟩];exact Nat.dvd_refl _
  ·
   rw[if_neg h];exact Nat.one_dvd _
 ·
  rw[cq,List.countP_reverse];exact cnt t ht
end Go.Proofs.Ytdamfbighdkcbaa.V
namespace Go.Proofs.Ytdamfbighdkcbaa.V
open Go.RowKit Go.Proofs.Ytdamfbighdkcbaa.D
def sgn:Nat→Int
 | 0 => -1
 | j+1=>0 - sgn j
def sumJ (g:List (List Int)) (A:List Int→Int) (xs:List Int):Nat→Int
 | 0=>0
 | j+1=>sumJ g A xs j+sgn j*A (join2 g xs j)
def BdS (g:List (List Int)) (u:List Int) (A:List Int→Int) (xs:List Int) (d:Nat):Int:=rd u (rd xs 0)*A (xs.drop 1)+sumJ g A xs d+sgn d*A (xs.take d)
theorem Bd_eq (g:List (List Int)) (u v xs:List Int) (d:Nat):Bd g u v xs d=BdS g u (At g v) xs d:=by
 have h:∀j,bsum g u v xs j=(rd u (rd xs 0)*At g v (xs.drop 1)+sumJ g (At g v) xs j,sgn j):=by
  intro j
  induction j with
  | zero=>simp[bsum,sumJ,sgn]
  | succ j ih=>simp only[bsum,ih,sumJ,sgn,Int.add_assoc]
 unfold Bd BdS
 rw[h d]
theorem Zk8 (g:List (List Int)) (A A' : List Int→Int) (c:Int) (xs:List Int):∀d,sumJ g (fun l=>A l+c*A' l) xs d=sumJ g A xs d+c*sumJ g A' xs d:=by
 intro d
 induction d with
 | zero=>simp[sumJ]
 | succ d ih =>
  simp only[sumJ,ih,Int.mul_add]
  rw[←Int.mul_assoc (sgn d) c,Int.mul_comm (sgn d) c,Int.mul_assoc]
  omega
theorem Zlz (g:List (List Int)) (u:List Int) (A A' : List Int→Int) (c:Int) (xs:List Int) (d:Nat):BdS g u (fun l=>A l+c*A' l) xs d=BdS g u A xs d+c*BdS g u A' xs d:=by
 unfold BdS
 rw[Zk8]
 simp only[Int.mul_add]
 rw[←Int.mul_assoc (sgn d) c,Int.mul_comm (sgn d) c,Int.mul_assoc,←Int.mul_assoc (rd u (rd xs 0)) c,Int.mul_comm (rd u (rd xs 0)) c,Int.mul_assoc]
 omega
noncomputable def AtF (g:List (List Int)) (h:Vc) (xs:List Int):Int:=ite_ (Zbk xs) (h (idx g xs).toNat) 0
theorem At_F (g:List (List Int)) (v:List Int):At g v=AtF g (V v):=by
 funext xs
 unfold At AtF
 by_cases h:Zbk xs
 ·
  rw[ZbN h,ZbN h];show v.getD (idx g xs).toNat 0=v.getD ((((idx g xs).toNat:Nat):Int)).toNat 0;rw[Int.toNat_natCast]
 ·
  rw[ZbM h,ZbM h]
theorem Zlx (g:List (List Int)) (h h' : Vc) (c:Int):AtF g (fun i=>h i+c*h' i)=fun l=>AtF g h l+c*AtF g h' l:=by
 funext xs
 unfold AtF
 by_cases k:Zbk xs
 ·
  simp only[ZbN k]
 ·
  simp only[ZbM k];omega
theorem Zku (g:List (List Int)):AtF g (fun _=>0)=fun _=>0:=by
 funext xs
 unfold AtF
 by_cases k:Zbk xs
 ·
  rw[ZbN k]
 ·
  rw[ZbM k]
theorem Zkj (g:List (List Int)) (xs:List Int):∀d,sumJ g (fun _=>0) xs d=0:=by
 intro d
 induction d with
 | zero=>rfl
 | succ d ih=>simp[sumJ,ih]
theorem Zkv (g:List (List Int)) (u xs:List Int) (d:Nat):BdS g u (fun _=>0) xs d=0:=by unfold BdS;rw[Zkj];simp
theorem Zmn {g:List (List Int)} (hg:Grp g) {e:Nat} (he:e≤3) {xs:List Int} (hx:AllIn g.length xs) (hl:xs.length=e) (h:Zbk xs):0≤idx g xs∧(idx g xs).toNat < nB g e:=by
 obtain⟨a,b⟩:=Zdx hg (ZiD hg (m:=2) (by omega) he 0) hx (by omega) h
 rw[ZbU]at b
 have:((cells g (e:Int)).toNat:Int)=((nB g e:Nat):Int):=rfl
 omega
theorem Zeq {g:List (List Int)} (hg:Grp g) {m:Int} {e:Nat} (he:e≤3) {h h' : Vc} (hh:∀i,i < nB g e→m∣h i - h' i) {xs:List Int} (hx:AllIn g.length xs) (hl:xs.length=e):m∣AtF g h xs - AtF g h' xs:=by
 unfold AtF
 by_cases k:Zbk xs
 ·
  rw[ZbN k,ZbN k]
  exact hh _ (Zmn hg he hx hl k).2
 ·
  rw[ZbM k,ZbM k]
  exact⟨0,by omega⟩
theorem Zcp {m a b c:Int} (h:m∣a - b):m∣c*a - c*b:=by
 rw[←Int.mul_sub];exact Int.dvd_mul_of_dvd_right h
theorem Zco {m a b c d:Int} (h:m∣a - b) (h' : m∣c - d):m∣(a+c) - (b+d):=by
 have:=Int.dvd_add h h'
 rwa[show a - b+(c - d)=a+c - (b+d)by omega]at this
theorem Zf6 {g:List (List Int)} (hg:Grp g) {m:Int} {u:List Int} {e:Nat} (he:e≤3) {h h' : Vc} (hh:∀i,i < nB g e→m∣h i - h' i) {xs:List Int} (hx:AllIn g.length xs) (hl:xs.length=e+1):m∣BdS g u (AtF g h) xs e - BdS g u (AtF g h') xs e:=by
 unfold BdS
 refine Zco (Zco (Zcp (Zeq hg he hh (hx.drop 1) (by rw[List.length_drop];omega))) ?_) (Zcp (Zeq hg he hh (hx.take e) (by rw[List.length_take];omega)))
 have:∀d,d≤e→m∣sumJ g (AtF g h) xs d - sumJ g (AtF g h') xs d:=by
  intro d
  induction d with
  | zero=>intro _;exact⟨0,by simp[sumJ]⟩
  | succ d ih =>
   intro hd
   obtain⟨k1,k2⟩:=Zel hg hx (j:=d) (by omega)
   exact Zco (ih (by omega)) (Zcp (Zeq hg he hh k1 (by omega)))
 exact this e (Nat.le_refl _)
def Bnd (g:List (List Int)) (m:Int) (u:List Int) (e:Nat) (z:Vc):Prop:=∀i,i < nB g (e+1)→m∣z i - BdS g u (AtF g fun k=>z (nB g (e+1)+k)) (lst ((g.length:Int) - 1) (e+1) (i:Int)) e
theorem Zlr {g:List (List Int)} (hg:Grp g) {e i:Nat} (he:e≤3) (hi:i < nB g (e+1)):AllIn g.length (lst ((g.length:Int) - 1) (e+1) (i:Int))∧Zbk (lst ((g.length:Int) - 1) (e+1) (i:Int)):=by
 obtain⟨c1,c2⟩:=nA_bd hg (e:=e+1) (by omega)
 exact ZfG hg (n:=e+1) (by omega)
theorem ZhO {g:List (List Int)} (hg:Grp g) {m:Int} (m2:2≤m) {u:List Int} {e:Nat} (he:e≤3) {z:Vc} (hz:allM g m u e z):Bnd g m u e z:=by
 have hs:Sub m (nB g (e+1)+nB g e) (Bnd g m u e):=by
  refine⟨fun i hi => ?_,fun x y hx hy c i hi => ?_,fun x y hx h i hi => ?_⟩
  ·
   rw[Zku,Zkv];exact⟨0,by dsimp only;omega⟩
  ·
   have e1:=Zlx g (fun k=>x (nB g (e+1)+k)) (fun k=>y (nB g (e+1)+k)) c
   rw[e1,Zlz]
   exact Zco (hx i hi) (Zcp (hy i hi))
  ·
   have h1:=hx i hi
   have h2:=h i (by omega)
   have h3:=Zf6 hg (u:=u) he (h:=fun k=>x (nB g (e+1)+k)) (h' := fun k=>y (nB g (e+1)+k)) (m:=m) (fun k hk=>h _ (by omega)) (Zlr hg he hi).1 (Zcg ..)
   have:=Int.dvd_add (Int.dvd_sub h1 h2) h3
   rwa[show ∀a b c d:Int,a - b - (a - c)+(b - d)=c - d from fun a b c d=>by omega]at this
 refine hs.all (fun w hw => ?_) hz
 obtain⟨k,hk,rfl⟩:=hw
 intro i hi
 have bl:(bdU g m u e k).length=nB g (e+1):=ZbD ..
 have e1:(fun j=>V (bdA g m u e k) (nB g (e+1)+j))=V (unitC (cells g (e:Int)).toNat k):=by
  funext j
  show rd (bdU g m u e k++unitC (nB g e) k) ((nB g (e+1)+j:Nat):Int)=rd (unitC (nB g e) k) (j:Int)
  rw[ZbG (by omega),bl,show nB g (e+1)+j - nB g (e+1)=j by omega]
 have e2:V (bdA g m u e k) i=bdV g u (unitC (cells g (e:Int)).toNat k) e i%m:=by
  show rd (bdU g m u e k++unitC (nB g e) k) (i:Int)=_
  rw[Zbn (by omega),Za4 (by omega)]
  simp only[bdU,bdL,List.getElem_map,List.getElem_range]
 rw[e1,e2,←At_F,←Bd_eq]
 exact⟨-(bdV g u (unitC (cells g (e:Int)).toNat k) e i / m),by
  have:=Int.mul_ediv_add_emod (bdV g u (unitC (cells g (e:Int)).toNat k) e i) m
  rw[Int.mul_neg]
  show bdV g u (unitC (cells g (e:Int)).toNat k) e i%m - bdV g u (unitC (cells g (e:Int)).toNat k) e i=_
  omega⟩
noncomputable def sumA (g:List (List Int)) (m:Int) (u:List Int) (e:Nat) (y:Vc):Nat→Vc
 | 0=>fun _=>0
 | k+1=>fun i=>sumA g m u e y k i+y k*V (bdA g m u e k) i
theorem Zk7 {g:List (List Int)} {m:Int} {u:List Int} {e:Nat} (y:Vc):∀k,k≤nB g e→allM g m u e (sumA g m u e y k):=by
 intro k
 induction k with
 | zero=>exact fun _ => .nil
 | succ k ih=>exact fun hk => .add _ (ih (by omega)) ⟨k,by omega,rfl⟩
theorem ZiC {c k j:Nat} (hk:k < c):rd (unitC c k) (j:Int)=if j=k then 1 else 0:=by
 unfold unitC
 by_cases e:j=k
 ·
  subst e;rw[if_pos rfl,Za5 (by simpa using hk)]
 ·
  rw[if_neg e,Zbb e,Zbj]
theorem Zki {g:List (List Int)} {m:Int} {u:List Int} {e:Nat} (y:Vc) (j:Nat):∀k,k≤nB g e→sumA g m u e y k (nB g (e+1)+j)=if j < k then y j else 0:=by
 intro k
 induction k with
 | zero=>intro _;simp[sumA]
 | succ k ih =>
  intro hk
  have bl:(bdU g m u e k).length=nB g (e+1):=ZbD ..
  have e1:V (bdA g m u e k) (nB g (e+1)+j)=if j=k then 1 else 0:=by
   show rd (bdU g m u e k++unitC (nB g e) k) ((nB g (e+1)+j:Nat):Int)=_
   rw[ZbG (by omega),bl,show nB g (e+1)+j - nB g (e+1)=j by omega,ZiC (by omega)]
  show sumA g m u e y k (nB g (e+1)+j)+y k*V (bdA g m u e k) (nB g (e+1)+j)=_
  rw[ih (by omega),e1]
  by_cases h1:j < k
  ·
   rw[if_pos h1,if_neg (by omega),if_pos (by omega)];omega
  ·
   by_cases h2:j=k
   ·
    subst h2;rw[if_neg h1,if_pos rfl,if_pos (by omega)];omega
   ·
    rw[if_neg h1,if_neg h2,if_neg (by omega)];omega
theorem ZkA {g:List (List Int)} (hg:Grp g) {m:Int} (m2:2≤m) {u:List Int} {e:Nat} (he:e≤3) {z:Vc} (hz:Bnd g m u e z):allM g m u e z:=by
 have h1:=Zk7 (g:=g) (m:=m) (u:=u) (e:=e) (fun k=>z (nB g (e+1)+k)) (nB g e) (Nat.le_refl _)
 have h2:=ZhO hg m2 he h1
 have ht:∀j,j < nB g e→sumA g m u e (fun k=>z (nB g (e+1)+k)) (nB g e) (nB g (e+1)+j)=z (nB g (e+1)+j):=fun j hj=>by
  rw[Zki _ _ _ (Nat.le_refl _),if_pos hj]
 refine .alike h1 fun i hi => ?_
 by_cases k:i < nB g (e+1)
 ·
  have a:=h2 i k
  have b:=hz i k
  have c:=Zf6 hg (u:=u) (m:=m) he (h:=fun k=>sumA g m u e (fun k=>z (nB g (e+1)+k)) (nB g e) (nB g (e+1)+k)) (h' := fun k=>z (nB g (e+1)+k)) (fun j hj=>Zas (ht j hj)) (Zlr hg he k).1 (Zcg ..)
  have:=Int.dvd_sub (Int.dvd_add a c) b
  rwa[show ∀a b c d:Int,a - b+(b - c) - (d - c)=a - d from fun a b c d=>by omega]at this
 ·
  obtain⟨j,rfl⟩:∃j,i=nB g (e+1)+j:=⟨i - nB g (e+1),by omega⟩
  exact Zas (ht j (by omega))
theorem Zkw {g:List (List Int)} (hg:Grp g) {m:Int} (m2:2≤m) {u:List Int} {e:Nat} (he:e≤3) {w y:List Int} (hw:w.length=nB g (e+1)):allM g m u e (V (w++y))↔∀i,i < nB g (e+1)→m∣rd w (i:Int) - bdV g u y e i:=by
 have e1:(fun k=>V (w++y) (nB g (e+1)+k))=V y:=by
  funext k
  show rd (w++y) ((nB g (e+1)+k:Nat):Int)=rd y (k:Int)
  rw[ZbG (by omega),hw,show nB g (e+1)+k - nB g (e+1)=k by omega]
 have e2:Bnd g m u e (V (w++y))↔∀i,i < nB g (e+1)→m∣rd w (i:Int) - bdV g u y e i:=by
  unfold Bnd
  rw[e1]
  constructor
  ·
   intro h i hi
   have:=h i hi
   rw[←At_F,←Bd_eq]at this
   rwa[show V (w++y) i=rd w (i:Int)from Zbn (by omega)]at this
  ·
   intro h i hi
   rw[←At_F,←Bd_eq,show V (w++y) i=rd w (i:Int)from Zbn (by omega)]
   exact h i hi
 exact⟨fun h=>e2.1 (ZhO hg m2 he h),fun h=>ZkA hg m2 he (e2.2 h)⟩
end Go.Proofs.Ytdamfbighdkcbaa.V
namespace Go.Proofs.Ytdamfbighdkcbaa.V
open Go.RowKit Go.Proofs.Ytdamfbighdkcbaa.D Go.Proofs.Ytdamfbighdkcbaa.P
theorem Zma {xs:List Int} {n:Nat} (h:xs.length=n+1):∃ys x,xs=ys++[x]∧ys.length=n:=by
 have hne:xs≠[]:=fun e=>by rw[e]at h;simp at h
 refine⟨xs.dropLast,xs.getLast hne,(List.dropLast_concat_getLast hne).symm,by rw[List.length_dropLast];omega⟩
theorem ZlU {g:List (List Int)}:∀(n:Nat) (xs:List Int),xs.length=n→(∀x∈xs,1≤x∧x < g.length)→lst ((g.length:Int) - 1) n (idx g xs)=xs:=by
 intro n
 induction n with
 | zero=>intro xs hl _;rw[List.eq_nil_of_length_eq_zero hl];rfl
 | succ n ih =>
  intro xs hl hx
  obtain⟨ys,x,rfl,hy⟩:=Zma hl
  obtain⟨x0,x1⟩:=hx x (by simp)
  rw[Zic,lst]
  have e1:(idx g ys*((g.length:Int) - 1)+x - 1) / ((g.length:Int) - 1)=idx g ys:=by
   rw[show idx g ys*((g.length:Int) - 1)+x - 1=(x - 1)+idx g ys*((g.length:Int) - 1)by omega,Int.add_mul_ediv_right _ _ (by omega),Int.ediv_eq_zero_of_lt (by omega) (by omega)]
   omega
  have e2:(idx g ys*((g.length:Int) - 1)+x - 1)%((g.length:Int) - 1)=x - 1:=by
   rw[show idx g ys*((g.length:Int) - 1)+x - 1=(x - 1)+idx g ys*((g.length:Int) - 1)by omega,Int.add_mul_emod_self_right,Int.emod_eq_of_lt (by omega) (by omega)]
  rw[e1,e2,ih ys hy fun z hz=>hx z (by simp[hz]),show x - 1+1=x by omega]
theorem Zmd {g:List (List Int)} {C:Nat} {G:Nat→Int} {xs:List Int} (h:Zbk xs) (hi:(idx g xs).toNat < C):At g ((List.range C).map G) xs=G (idx g xs).toNat:=by
 unfold At
 rw[ZbN h]
 show((List.range C).map G).getD (idx g xs).toNat 0=_
 simp[List.getD_eq_getElem?_getD,List.getElem?_map,List.getElem?_range hi]
def ConP (g:List (List Int)) (m:Int) (u v r:List Int) (n:Nat):Prop:=∀x:Int,0≤x→x < n→∀y:Int,0≤y→y < n→T g x y < n→(rd r x+rd u x*rd r y+At g v [x,y])%m=rd r (T g x y)
theorem ConP.pre {g:List (List Int)} {m:Int} {u v r r' : List Int} {n n' : Nat} (h:ConP g m u v r n) (hn:n' ≤ n) (hg:Grp g) (hN:n≤g.length) (he:∀i:Int,0≤i→i < n' → rd r' i=rd r i):ConP g m u v r' n' := by
 intro x x0 x1 y y0 y1 ht
 have e:=h x x0 (by omega) y y0 (by omega) (by omega)
 obtain⟨t0,_⟩:=hg.ent x y x0 (by omega) y0 (by omega)
 rw[he x x0 x1,he y y0 y1,he _ t0 ht]
 exact e
end Go.Proofs.Ytdamfbighdkcbaa.V
namespace Go.Proofs.Ytdamfbighdkcbaa.V
open Go.RowKit Go.Proofs.Ytdamfbighdkcbaa.D Go.Proofs.Ytdamfbighdkcbaa.P
def cg (m a b:Int):Prop:=m∣a - b
theorem Zex (m a:Int):cg m a a:=⟨0,by simp⟩
theorem cg.symm {m a b:Int} (h:cg m a b):cg m b a:=by obtain⟨x,hx⟩:=h;exact⟨-x,by rw[Int.mul_neg];omega⟩
theorem cg.trans {m a b c:Int} (h:cg m a b) (k:cg m b c):cg m a c:=by obtain⟨x,hx⟩:=h;obtain⟨y,hy⟩:=k;exact⟨x+y,by rw[Int.mul_add];omega⟩
theorem ZhT {m a b c d:Int} (h:cg m a b) (k:cg m c d):cg m (a+c) (b+d):=by obtain⟨x,hx⟩:=h;obtain⟨y,hy⟩:=k;exact⟨x+y,by rw[Int.mul_add];omega⟩
theorem Zgf {m a b c d:Int} (h:cg m a b) (k:cg m c d):cg m (a - c) (b - d):=by obtain⟨x,hx⟩:=h;obtain⟨y,hy⟩:=k;exact⟨x - y,by rw[Int.mul_sub];omega⟩
theorem ZhV {m a b c d:Int} (h:cg m a b) (k:cg m c d):cg m (a*c) (b*d):=by
 obtain⟨x,hx⟩:=h;obtain⟨y,hy⟩:=k
 exact⟨x*c+b*y,by grind⟩
theorem ZhU (m a:Int):cg m (a%m) a:=cg.symm Int.dvd_self_sub_emod
theorem ZdM {m a b:Int} (h:a=b):cg m a b:=by rw[h];exact Zex _ _
noncomputable def tl (g:List (List Int)) (d:Nat) (F:List Int→Int):List Int:=(List.range (cells g (d:Int)).toNat).map fun i:Nat=>F (lst ((g.length:Int) - 1) d (i:Int))
theorem At_tl {g:List (List Int)} (hg:Grp g) {d:Nat} (hd:d≤4) (F:List Int→Int) {xs:List Int} (hx:AllIn g.length xs) (hl:xs.length=d):At g (tl g d F) xs=ite_ (Zbk xs) (F xs) 0:=by
 by_cases h:Zbk xs
 rotate_left
 ·
  unfold At;rw[ZbM h,ZbM h]
 have hi:0≤idx g xs∧(idx g xs).toNat < nB g d:=by
  have hb:=ZjL hg hx xs.length (Nat.le_refl _) (fun j j0 j1=>h j j0 (by omega))
  rw[List.take_length,hl]at hb
  refine⟨hb.1,?_⟩
  obtain⟨b1,b2⟩:=nA_bd hg (e:=d) hd
  have:cells g (d:Int)=((g.length:Int) - 1) ^ d:=rfl
  omega
 have e:=Zmd (g:=g) (C:=(cells g (d:Int)).toNat) (G:=fun i:Nat=>F (lst ((g.length:Int) - 1) d (i:Int))) h hi.2
 unfold tl
 rw[e,Int.toNat_of_nonneg hi.1,ZbN h,ZlU d xs hl fun x hx' => by
  obtain⟨j,hj,e⟩:=List.mem_iff_getElem.1 hx'
  obtain⟨a0,a1⟩:=hx.mem hx'
  have:=h (j:Int) (by omega) (by omega)
  rw[Za4 hj,e]at this
  omega]
theorem Zly {g:List (List Int)} {v xs:List Int} (h:¬ Zbk xs):At g v xs=0:=by unfold At;exact ZbM h _ _
theorem Zjc {g:List (List Int)} (hg:Grp g) {m:Int} {u v xs:List Int} {d:Nat} (hd:d≤3) (hx:AllIn g.length xs) (hl:xs.length=d+1) (hn:Zbk xs):At g (bdL g m u v d) xs=Bd g u v xs d%m:=by
 have e:bdL g m u v d=tl g (d+1) (fun ys=>Bd g u v ys d%m):=rfl
 rw[e,At_tl hg (by omega) _ hx hl,ZbN hn]
end Go.Proofs.Ytdamfbighdkcbaa.V
set_option maxHeartbeats 8000000
namespace Go.Proofs.Ytdamfbighdkcbaa.V
open Go.RowKit Go.Proofs.Ytdamfbighdkcbaa.D Go.Proofs.Ytdamfbighdkcbaa.P
theorem bdZ {g:List (List Int)} {u v:List Int} {x:Int}:Bd g u v [x] 0=rd u x*At g v [] - At g v []:=by
 have e0:rd [x] 0=x:=rfl
 simp only[Bd,bsum,List.drop_succ_cons,List.drop_zero,List.take_zero,e0]
 omega
theorem bdT {g:List (List Int)} {u v:List Int} {x y z:Int}:Bd g u v [x,y,z] 2=rd u x*At g v [y,z] - At g v [T g x y,z]+At g v [x,T g y z] - At g v [x,y]:=by
 simp only[Bd,bsum,join2,List.take_zero,List.nil_append,List.drop_succ_cons,List.drop_zero,List.take_succ_cons]
 have e0:rd [x,y,z] 0=x:=rfl
 have e1:rd [x,y,z] ((0+1:Nat):Int)=y:=rfl
 have e2:rd [x,y,z] ((0:Nat):Int)=x:=rfl
 have e3:rd [x,y,z] ((1+1:Nat):Int)=z:=rfl
 have e4:rd [x,y,z] ((1:Nat):Int)=y:=rfl
 simp only[e0,e1,e2,e3,e4,List.append_nil,List.singleton_append,List.cons_append,List.nil_append]
 omega
end Go.Proofs.Ytdamfbighdkcbaa.V
namespace Go.Proofs.Ytdamfbighdkcbaa.V
open Go.RowKit Go.Proofs.Ytdamfbighdkcbaa.D Go.Proofs.Ytdamfbighdkcbaa.P
theorem bdO {g:List (List Int)} {u v:List Int} {x y:Int}:Bd g u v [x,y] 1=rd u x*At g v [y] - At g v [T g x y]+At g v [x]:=by
 simp only[Bd,bsum,join2,List.take_zero,List.nil_append,List.drop_succ_cons,List.drop_zero,List.take_succ_cons]
 have e0:rd [x,y] 0=x:=rfl
 have e1:rd [x,y] ((0+1:Nat):Int)=y:=rfl
 have e2:rd [x,y] ((0:Nat):Int)=x:=rfl
 simp only[e0,e1,e2,List.append_nil]
 omega
theorem bdQ {g:List (List Int)} {u v:List Int} {x y z w:Int}:Bd g u v [x,y,z,w] 3=rd u x*At g v [y,z,w] - At g v [T g x y,z,w]+At g v [x,T g y z,w] - At g v [x,y,T g z w]+At g v [x,y,z]:=by
 simp only[Bd,bsum,join2,List.take_zero,List.nil_append,List.drop_succ_cons,List.drop_zero,List.take_succ_cons]
 have e0:rd [x,y,z,w] 0=x:=rfl
 have e1:rd [x,y,z,w] ((0+1:Nat):Int)=y:=rfl
 have e2:rd [x,y,z,w] ((0:Nat):Int)=x:=rfl
 have e3:rd [x,y,z,w] ((1+1:Nat):Int)=z:=rfl
 have e4:rd [x,y,z,w] ((1:Nat):Int)=y:=rfl
 have e5:rd [x,y,z,w] ((2+1:Nat):Int)=w:=rfl
 have e6:rd [x,y,z,w] ((2:Nat):Int)=z:=rfl
 simp only[e0,e1,e2,e3,e4,e5,e6,List.append_nil,List.singleton_append,List.cons_append,List.nil_append]
 omega
theorem Zhk {x:Int}:Zbk [x]↔x≠0:=by
 constructor
 ·
  intro h;exact h 0 (by omega) (by simp)
 ·
  intro h j j0 j1
  have:j=0:=by simp at j1;omega
  subst this;exact h
theorem Zdn {x:Int} {xs:List Int}:Zbk (x :: xs)↔x≠0∧Zbk xs:=by
 constructor
 ·
  intro h
  refine⟨h 0 (by omega) (by rw[List.length_cons];omega),fun j j0 j1 => ?_⟩
  obtain⟨n,rfl⟩:=Int.eq_ofNat_of_zero_le j0
  have:=h ((n+1:Nat):Int) (by omega) (by rw[List.length_cons];omega)
  rwa[rd_cs]at this
 ·
  rintro⟨h1,h2⟩ j j0 j1
  obtain⟨n,rfl⟩:=Int.eq_ofNat_of_zero_le j0
  cases n with
  | zero=>rw[rd_c0];exact h1
  | succ n=>rw[rd_cs];exact h2 n (by omega) (by rw[List.length_cons]at j1;omega)
theorem At0 {g:List (List Int)} {v:List Int} {a b:List Int}:At g v (a++0 :: b)=0:=Zly fun h=>by
 have:=h (a.length:Int) (by omega) (by rw[List.length_append,List.length_cons];omega)
 rw[Za4 (by rw[List.length_append,List.length_cons];omega),List.getElem_append_right (Nat.le_refl _)]at this
 simp at this
section
variable {g:List (List Int)} {m:Int} {u v:List Int}
theorem At_d0 (hg:Grp g) (hm:Mdl g m u) {x:Int} (x0:0≤x) (x1:x < g.length):cg m (At g (bdL g m u v 0) [x]) (rd u x*At g v [] - At g v []):=by
 by_cases h:x=0
 ·
  subst h
  rw[show At g (bdL g m u v 0) [0]=0 from At0 (a:=[]),hm.one hg]
  exact ZdM (by omega)
 ·
  rw[Zjc hg (d:=0) (by omega) (Zf8 x0 x1) rfl (Zhk.2 h),bdZ]
  exact ZhU m _
theorem At_d1 (hg:Grp g) (hm:Mdl g m u) {x y:Int} (x0:0≤x) (x1:x < g.length) (y0:0≤y) (y1:y < g.length):cg m (At g (bdL g m u v 1) [x,y]) (rd u x*At g v [y] - At g v [T g x y]+At g v [x]):=by
 by_cases h:x=0
 ·
  subst h
  rw[show At g (bdL g m u v 1) [0,y]=0 from At0 (a:=[]),hm.one hg,hg.one y y0 y1,show At g v [0]=0 from At0 (a:=[])]
  exact ZdM (by omega)
 ·
  by_cases k:y=0
  ·
   subst k
   rw[show At g (bdL g m u v 1) [x,0]=0 from At0 (a:=[x]),hg.one' x x0 x1,show At g v [0]=0 from At0 (a:=[])]
   exact ZdM (by omega)
  ·
   rw[Zjc hg (d:=1) (by omega) (Zf9 x0 x1 y0 y1) rfl (Zdn.2 ⟨h,Zhk.2 k⟩),bdO]
   exact ZhU m _
theorem At_d2 (hg:Grp g) (hm:Mdl g m u) {x y z:Int} (x0:0≤x) (x1:x < g.length) (y0:0≤y) (y1:y < g.length) (z0:0≤z) (z1:z < g.length):cg m (At g (bdL g m u v 2) [x,y,z]) (rd u x*At g v [y,z] - At g v [T g x y,z]+At g v [x,T g y z] - At g v [x,y]):=by
 by_cases h:x=0
 ·
  subst h
  rw[show At g (bdL g m u v 2) [0,y,z]=0 from At0 (a:=[]),hm.one hg,hg.one y y0 y1,show At g v [0,T g y z]=0 from At0 (a:=[]),show At g v [0,y]=0 from At0 (a:=[])]
  exact ZdM (by omega)
 ·
  by_cases k:y=0
  ·
   subst k
   rw[show At g (bdL g m u v 2) [x,0,z]=0 from At0 (a:=[x]),hg.one' x x0 x1,hg.one z z0 z1,show At g v [0,z]=0 from At0 (a:=[]),show At g v [x,0]=0 from At0 (a:=[x])]
   exact ZdM (by omega)
  ·
   by_cases l:z=0
   ·
    subst l
    rw[show At g (bdL g m u v 2) [x,y,0]=0 from At0 (a:=[x,y]),hg.one' y y0 y1,show At g v [y,0]=0 from At0 (a:=[y]),show At g v [T g x y,0]=0 from At0 (a:=[T g x y])]
    exact ZdM (by omega)
   ·
    rw[Zjc hg (d:=2) (by omega) (Zg1 x0 x1 y0 y1 z0 z1) rfl (Zdn.2 ⟨h,Zdn.2 ⟨k,Zhk.2 l⟩⟩),bdT]
    exact ZhU m _
theorem u_hom (hg:Grp g) (hm:Mdl g m u) {x y:Int} (x0:0≤x) (x1:x < g.length) (y0:0≤y) (y1:y < g.length) (a:Int):cg m (rd u (T g x y)*a) (rd u x*(rd u y*a)):=by
 have hl:=hm.len
 rw[hm.hom x x0 (by omega) y y0 (by omega),←Int.mul_assoc]
 exact ZhV (ZhU m _) (Zex m a)
theorem dd0 (hg:Grp g) (hm:Mdl g m u) {x y:Int} (x0:0≤x) (x1:x < g.length) (y0:0≤y) (y1:y < g.length):cg m (Bd g u (bdL g m u v 0) [x,y] 1) 0:=by
 obtain⟨t0,t1⟩:=hg.ent x y x0 x1 y0 y1
 rw[bdO]
 have h1:=ZhV (Zex m (rd u x)) (At_d0 hg hm (v:=v) y0 y1)
 have h2:=At_d0 hg hm (v:=v) t0 t1
 have h3:=At_d0 hg hm (v:=v) x0 x1
 have k:=u_hom hg hm x0 x1 y0 y1 (At g v [])
 have s:=ZhT (Zgf h1 h2) h3
 refine s.trans ?_
 obtain⟨q,hq⟩:=k
 refine⟨-q,?_⟩
 rw[Int.mul_neg,←hq,Int.mul_sub]
 omega
theorem dd1 (hg:Grp g) (hm:Mdl g m u) {x y z:Int} (x0:0≤x) (x1:x < g.length) (y0:0≤y) (y1:y < g.length) (z0:0≤z) (z1:z < g.length):cg m (Bd g u (bdL g m u v 1) [x,y,z] 2) 0:=by
 obtain⟨t0,t1⟩:=hg.ent x y x0 x1 y0 y1
 obtain⟨s0,s1⟩:=hg.ent y z y0 y1 z0 z1
 rw[bdT]
 have h1:=ZhV (Zex m (rd u x)) (At_d1 hg hm (v:=v) y0 y1 z0 z1)
 have h2:=At_d1 hg hm (v:=v) t0 t1 z0 z1
 have h3:=At_d1 hg hm (v:=v) x0 x1 s0 s1
 have h4:=At_d1 hg hm (v:=v) x0 x1 y0 y1
 have k:=u_hom hg hm x0 x1 y0 y1 (At g v [z])
 have s:=Zgf (ZhT (Zgf h1 h2) h3) h4
 refine s.trans ?_
 obtain⟨q,hq⟩:=k
 refine⟨-q,?_⟩
 rw[Int.mul_neg,←hq,Int.mul_add,Int.mul_sub,hg.assoc x y z x0 x1 y0 y1 z0 z1]
 omega
theorem dd2 (hg:Grp g) (hm:Mdl g m u) {x y z w:Int} (x0:0≤x) (x1:x < g.length) (y0:0≤y) (y1:y < g.length) (z0:0≤z) (z1:z < g.length) (w0:0≤w) (w1:w < g.length):cg m (Bd g u (bdL g m u v 2) [x,y,z,w] 3) 0:=by
 obtain⟨t0,t1⟩:=hg.ent x y x0 x1 y0 y1
 obtain⟨s0,s1⟩:=hg.ent y z y0 y1 z0 z1
 obtain⟨r0,r1⟩:=hg.ent z w z0 z1 w0 w1
 rw[bdQ]
 have h1:=ZhV (Zex m (rd u x)) (At_d2 hg hm (v:=v) y0 y1 z0 z1 w0 w1)
 have h2:=At_d2 hg hm (v:=v) t0 t1 z0 z1 w0 w1
 have h3:=At_d2 hg hm (v:=v) x0 x1 s0 s1 w0 w1
 have h4:=At_d2 hg hm (v:=v) x0 x1 y0 y1 r0 r1
 have h5:=At_d2 hg hm (v:=v) x0 x1 y0 y1 z0 z1
 have k:=u_hom hg hm x0 x1 y0 y1 (At g v [z,w])
 have s:=ZhT (Zgf (ZhT (Zgf h1 h2) h3) h4) h5
 refine s.trans ?_
 obtain⟨q,hq⟩:=k
 refine⟨-q,?_⟩
 rw[Int.mul_neg,←hq,Int.mul_sub,Int.mul_add,Int.mul_sub,hg.assoc x y z x0 x1 y0 y1 z0 z1,hg.assoc y z w y0 y1 z0 z1 w0 w1]
 omega
theorem dd (hg:Grp g) (hm:Mdl g m u) {e:Nat} (he:e≤2) {xs:List Int} (hx:AllIn g.length xs) (hl:xs.length=e+2):cg m (Bd g u (bdL g m u v e) xs (e+1)) 0:=by
 have c:e=0∨e=1∨e=2:=by omega
 rcases c with rfl|rfl|rfl
 ·
  match xs,hl with
  | [x,y],_ =>
   have hx' := fun z hz=>hx.mem (x:=z) hz
   obtain⟨a0,a1⟩:=hx' x (by simp)
   obtain⟨b0,b1⟩:=hx' y (by simp)
   exact dd0 hg hm a0 a1 b0 b1
 ·
  match xs,hl with
  | [x,y,z],_ =>
   have hx' := fun z hz=>hx.mem (x:=z) hz
   obtain⟨a0,a1⟩:=hx' x (by simp)
   obtain⟨b0,b1⟩:=hx' y (by simp)
   obtain⟨c0,c1⟩:=hx' z (by simp)
   exact dd1 hg hm a0 a1 b0 b1 c0 c1
 ·
  match xs,hl with
  | [x,y,z,w],_ =>
   have hx' := fun z hz=>hx.mem (x:=z) hz
   obtain⟨a0,a1⟩:=hx' x (by simp)
   obtain⟨b0,b1⟩:=hx' y (by simp)
   obtain⟨c0,c1⟩:=hx' z (by simp)
   obtain⟨d0,d1⟩:=hx' w (by simp)
   exact dd2 hg hm a0 a1 b0 b1 c0 c1 d0 d1
theorem bd_co (hg:Grp g) (hm:Mdl g m u) {n:Nat} (hn:n≤3) {x:Vc} (hx:Sp m (nB g n) (bdG g m u n) x):coM g m u n x:=by
 have m2:=hm.m2
 have hs:Sub m (nB g n) (coM g m u n):=(Zgk hg hm hn).choose_spec.2.sub
 refine hs.all (fun w hw => ?_) hx
 cases n with
 | zero=>exact hw.elim
 | succ e =>
  obtain⟨i,hi,rfl⟩:=hw
  have bl:(bdU g m u e i).length=nB g (e+1):=ZbD ..
  have hz:coM g m u (e+1) (V (bdU g m u e i))↔allM g m u (e+1) (V (List.replicate (nB g (e+2)) 0++bdU g m u e i)):=by
   unfold coM allM
   rw[show pad (nB g (e+1+1)) (V (bdU g m u e i))=V (List.replicate (nB g (e+2)) 0++bdU g m u e i)from ?_]
   funext k
   unfold pad
   by_cases hk:k < nB g (e+2)
   ·
    rw[if_pos hk]
    show 0=rd (List.replicate (nB g (e+2)) 0++bdU g m u e i) (k:Int)
    rw[Zbn (by rw[List.length_replicate];exact hk),Zbj]
   ·
    rw[if_neg hk]
    show rd (bdU g m u e i) _=rd (List.replicate (nB g (e+2)) 0++bdU g m u e i) (k:Int)
    rw[ZbG (by rw[List.length_replicate];omega),List.length_replicate]
  rw[hz,Zkw hg m2 hn List.length_replicate]
  intro j hj
  rw[Zbj]
  have hgl:=ZfG hg (n:=e+1+1) (i:=j) (by
   obtain⟨c1,c2⟩:=nA_bd hg (e:=e+1+1) (by omega)
   omega)
  have:=dd hg hm (v:=unitC (cells g (e:Int)).toNat i) (e:=e) (by omega) hgl.1 (Zcg ..)
  obtain⟨q,hq⟩:=this
  refine⟨-q,?_⟩
  have e1:bdV g u (bdU g m u e i) (e+1) j=Bd g u (bdL g m u (unitC (cells g (e:Int)).toNat i) e) (lst ((g.length:Int) - 1) (e+1+1) (j:Int)) (e+1):=rfl
  rw[e1,Int.mul_neg]
  omega
end
end Go.Proofs.Ytdamfbighdkcbaa.V
namespace Go.Proofs.Ytdamfbighdkcbaa.V
open Go.RowKit Go.Proofs.Ytdamfbighdkcbaa.D Go.Proofs.Ytdamfbighdkcbaa.P
def sel (p:List (List Int)) (W:Nat):List (List Int):=(nn p W).map fun j:Nat=>row p (j:Int)
theorem ZbJ (p:List (List Int)) (W:Nat):(sel p W).length=(nn p W).length:=List.length_map ..
theorem Zkf {p:List (List Int)} {W k:Nat} (h:k < (nn p W).length):row (sel p W) (k:Int)=row p (((nn p W).getD k 0:Nat):Int):=by
 rw[Za0 (by rw[ZbJ];exact h),List.getD_eq_getElem?_getD,List.getElem?_eq_getElem h]
 simp[sel]
theorem Zit (p:List (List Int)) (W:Nat):sel p (W+1)=if row p (W:Int)≠[]then sel p W++[row p (W:Int)]else sel p W:=by
 unfold sel
 rw[ZjP,List.map_append]
 by_cases h:row p (W:Int)≠[]
 ·
  rw[if_pos h,if_pos h];rfl
 ·
  rw[if_neg h,if_neg h];simp
theorem Zke {p:List (List Int)} {W:Nat} (h:row p (W:Int)=[]):sel p (W+1)=sel p W:=by rw[Zit,if_neg fun q=>q h]
theorem ZhG {p:List (List Int)} {W:Nat} (h:¬ row p (W:Int)=[]):sel p (W+1)=sel p W++[row p (W:Int)]:=by rw[Zit,if_pos h]
theorem nn_le (p:List (List Int)) (W:Nat):(nn p W).length≤W:=by
 have:=List.length_filter_le (fun j=>decide (row p ((j:Nat):Int)≠[])) (List.range W)
 rwa[List.length_range]at this
theorem Rok.sel {m:Int} {W:Nat} {p:List (List Int)} (ht:PTab m W p):Rok m W (sel p W):=fun i hi=>by
 rw[ZbJ]at hi
 rw[Zkf hi]
 obtain⟨a,b⟩:=nn_at hi
 have hP:=ht.prow a b
 exact⟨hP.len,hP.ent⟩
theorem Zhg {p:List (List Int)} {W k:Nat} (h:k < (nn p W).length):gen p (nn p W) k=V (row (sel p W) (k:Int)):=by rw[Zkf h];rfl
theorem Zms {m:Int} (m2:2≤m) (m12:m≤12) {W:Nat} {p:List (List Int)} {M:Vc→Prop} (hM:Lead m W p M) (x:Vc):Mx m W (sel p W) x↔M x:=by
 constructor
 ·
  intro hx
  refine hM.sub.all (fun g hg => ?_) hx
  obtain⟨r,hr,rfl⟩:=hg
  obtain⟨j,hj,rfl⟩:=List.mem_map.1 hr
  obtain⟨a,b⟩:=Zlt.1 hj
  exact hM.own j a b
 ·
  intro hx
  obtain⟨c,hc⟩:=(ZfD m2 m12 hM x).1 hx
  refine .alike (Sub.cmb Sp.sub (G:=gen p (nn p W)) (c:=c) _ fun k hk => ?_) hc
  rw[Zhg hk]
  exact Zbd (by rw[ZbJ];exact hk)
theorem ZhX {G G' : Nat→Vc} {c:Vc} {i i' : Nat}:∀n,(∀k,k < n→G k i=G' k i')→cmb G c n i=cmb G' c n i'
 | 0,_=>rfl
 | n+1,h=>by
  show cmb G c n i+c n*G n i=cmb G' c n i' + c n*G' n i'
  rw[ZhX n fun k hk=>h k (by omega),h n (by omega)]
theorem Zgj {G:Nat→Vc} {c:Vc} {j i:Nat}:∀n,(∀k,k < n→G k i=if k=j then 1 else 0)→cmb G c n i=if j < n then c j else 0
 | 0,_=>by rw[if_neg (Nat.not_lt_zero _)];rfl
 | n+1,h=>by
  show cmb G c n i+c n*G n i=_
  rw[Zgj n fun k hk=>h k (by omega),h n (by omega)]
  by_cases e:n=j
  ·
   subst e;rw[if_neg (Nat.lt_irrefl _),if_pos rfl,if_pos (Nat.lt_succ_self _)];omega
  ·
   rw[if_neg e]
   by_cases hj:j < n
   ·
    rw[if_pos hj,if_pos (by omega)];omega
   ·
    rw[if_neg hj,if_neg (by omega)];omega
theorem ZhY {G:Nat→Vc} {c:Vc} {j i:Nat}:∀n,(∀k,k < n→c k=if k=j then 1 else 0)→cmb G c n i=if j < n then G j i else 0
 | 0,_=>by rw[if_neg (Nat.not_lt_zero _)];rfl
 | n+1,h=>by
  show cmb G c n i+c n*G n i=_
  rw[ZhY n fun k hk=>h k (by omega),h n (by omega)]
  by_cases e:n=j
  ·
   subst e;rw[if_neg (Nat.lt_irrefl _),if_pos rfl,if_pos (Nat.lt_succ_self _)];omega
  ·
   rw[if_neg e]
   by_cases hj:j < n
   ·
    rw[if_pos hj,if_pos (by omega)];omega
   ·
    rw[if_neg hj,if_neg (by omega)];omega
theorem Zg9 {G:Nat→Vc} {c:Vc} {i:Nat}:∀n,(∀k,k < n→c k=0)→cmb G c n i=0
 | 0,_=>rfl
 | n+1,h=>by
  show cmb G c n i+c n*G n i=0
  rw[Zg9 n fun k hk=>h k (by omega),h n (by omega)];omega
noncomputable def rrow (S b:List (List Int)) (W:Nat) (i:Nat):List Int:=if i < S.length then row S (i:Int)++unitC S.length i else row (sel b W) ((i - S.length:Nat):Int)++List.replicate S.length 0
theorem ZkZ {m:Int} (m2:2≤m) (m12:m≤12) {W:Nat} {z b:List (List Int)} {Z Bs:Vc→Prop} (hz:Lead m W z Z) (hb:Lead m W b Bs) (x:Vc) :
  Sp m (W+(nn z W).length) (Gn (rrow (sel z W) b W) ((nn z W).length+(nn b W).length)) x↔Bs (fun i=>x i+(-1)*cmb (gen z (nn z W)) (fun k=>x (W+k)) (nn z W).length i):=by
 obtain⟨r,hr⟩:∃r,r=(nn z W).length:=⟨_,rfl⟩
 have sl:(sel z W).length=r:=by rw[ZbJ,hr]
 have hsr:=Rok.sel hz.tab
 have hbr:=Rok.sel hb.tab
 have hlow:∀k,k < r→∀i,i < W→V (rrow (sel z W) b W k) i=gen z (nn z W) k i:=fun k hk i hi=>by
  unfold rrow
  rw[if_pos (by omega),Zhg (by omega)]
  show rd _ (i:Int)=rd _ (i:Int)
  rw[Zbn (by rw[(hsr k (by omega)).1];exact hi)]
 have hlow2:∀k,k < r→∀j,V (rrow (sel z W) b W k) (W+j)=if j=k then 1 else 0:=fun k hk j=>by
  unfold rrow
  rw[if_pos (by omega)]
  show rd _ ((W+j:Nat):Int)=_
  rw[ZbG (by rw[(hsr k (by omega)).1];omega),(hsr k (by omega)).1,show W+j - W=j by omega,ZiC (by omega)]
 have hhi:∀l,l < (nn b W).length→∀i,i < W→V (rrow (sel z W) b W (r+l)) i=gen b (nn b W) l i:=fun l hl i hi=>by
  unfold rrow
  rw[if_neg (by omega),sl,show r+l - r=l by omega,Zhg hl]
  show rd _ (i:Int)=rd _ (i:Int)
  rw[Zbn (by rw[(hbr l (by rw[ZbJ];exact hl)).1];exact hi)]
 have hhi2:∀l,l < (nn b W).length→∀j,V (rrow (sel z W) b W (r+l)) (W+j)=0:=fun l hl j=>by
  unfold rrow
  rw[if_neg (by omega),sl,show r+l - r=l by omega]
  show rd _ ((W+j:Nat):Int)=_
  rw[ZbG (by rw[(hbr l (by rw[ZbJ];exact hl)).1];omega),Zbj]
 rw[←hr]
 have hN:Sub m (W+r) (fun x=>Bs (fun i=>x i+(-1)*cmb (gen z (nn z W)) (fun k=>x (W+k)) r i)):=by
  refine⟨hb.sub.alike _ _ hb.sub.zero fun i _=>Zas (by rw[Zg9 r fun k _=>rfl];rfl),fun x y h1 h2 c=>hb.sub.alike _ _ (hb.sub.lin _ _ h1 h2 c) fun i _=>Zas ?_,fun x y h1 h2=>hb.sub.alike _ _ h1 fun i hi => ?_⟩
  ·
   show x i + -1*_+c*(y i + -1*_)=x i+c*y i + -1*cmb (gen z (nn z W)) (fun k=>x (W+k)+c*y (W+k)) r i
   rw[Zce,Int.mul_add c,Int.mul_add (-1),Int.mul_left_comm c (-1)]
   omega
  ·
   have k1:=h2 i (by omega)
   have k2:=ZcJ (m:=m) (G:=gen z (nn z W)) (c:=fun k=>x (W+k)) (e:=fun k=>y (W+k)) i r fun j hj=>h2 (W+j) (by omega)
   have:=Int.dvd_sub k1 k2
   rwa[show ∀a b c d:Int,a - b - (c - d)=a + -1*c - (b + -1*d)from fun a b c d=>by omega]at this
 constructor
 ·
  intro hx
  refine hN.all (fun g hg => ?_) hx
  obtain⟨i,hi,rfl⟩:=hg
  by_cases h:i < r
  ·
   refine hb.sub.alike _ _ hb.sub.zero fun k hk=>Zas ?_
   show 0=V (rrow (sel z W) b W i) k + -1*cmb (gen z (nn z W)) (fun j=>V (rrow (sel z W) b W i) (W+j)) r k
   rw[ZhY (j:=i) r fun j hj=>by rw[hlow2 i h],if_pos h,hlow i h k hk]
   omega
  ·
   obtain⟨l,rfl⟩:∃l,i=r+l:=⟨i - r,by omega⟩
   have hl:l < (nn b W).length:=by omega
   obtain⟨a1,a2⟩:=nn_at hl
   refine hb.sub.alike _ _ (hb.own _ a1 a2) fun k hk=>Zas ?_
   show gen b (nn b W) l k=V (rrow (sel z W) b W (r+l)) k + -1*cmb (gen z (nn z W)) (fun j=>V (rrow (sel z W) b W (r+l)) (W+j)) r k
   rw[Zg9 r fun j hj=>hhi2 l hl j,hhi l hl k hk]
   omega
 ·
  intro hx
  obtain⟨e,he⟩:=(ZfD m2 m12 hb _).1 hx
  have own:∀i,i < r+(nn b W).length→Sp m (W+r) (Gn (rrow (sel z W) b W) (r+(nn b W).length)) (V (rrow (sel z W) b W i)):=fun i hi => .gen ⟨i,hi,rfl⟩
  have s1:=Sub.cmb (Sp.sub (m:=m) (W:=W+r) (G:=Gn (rrow (sel z W) b W) (r+(nn b W).length))) (G:=fun k=>V (rrow (sel z W) b W k)) (c:=fun k=>x (W+k)) r fun k hk=>own k (by omega)
  have s2:=Sub.cmb (Sp.sub (m:=m) (W:=W+r) (G:=Gn (rrow (sel z W) b W) (r+(nn b W).length))) (G:=fun l=>V (rrow (sel z W) b W (r+l))) (c:=e) (nn b W).length fun l hl=>own (r+l) (by omega)
  refine .alike (s1.plus s2) fun i hi => ?_
  by_cases h:i < W
  ·
   have k1:=ZhX (G:=fun k=>V (rrow (sel z W) b W k)) (G' := gen z (nn z W)) (c:=fun k=>x (W+k)) (i:=i) (i' := i) r fun k hk=>hlow k hk i h
   have k2:=ZhX (G:=fun l=>V (rrow (sel z W) b W (r+l))) (G' := gen b (nn b W)) (c:=e) (i:=i) (i' := i) (nn b W).length fun l hl=>hhi l hl i h
   rw[k1,k2]
   have:=he i h
   rwa[show ∀a b c:Int,a - (b + -1*c)=c+a - b from fun a b c=>by omega]at this
  ·
   obtain⟨j,rfl⟩:∃j,i=W+j:=⟨i - W,by omega⟩
   have k1:=Zgj (G:=fun k=>V (rrow (sel z W) b W k)) (c:=fun k=>x (W+k)) (j:=j) (i:=W+j) r fun k hk=>by
    show V (rrow (sel z W) b W k) (W+j)=_
    rw[hlow2 k hk]
    by_cases e2:j=k
    ·
     rw[if_pos e2,if_pos e2.symm]
    ·
     rw[if_neg e2,if_neg (Ne.symm e2)]
   have k2:=ZhX (G:=fun l=>V (rrow (sel z W) b W (r+l))) (G' := fun _ _=>0) (c:=e) (i:=W+j) (i' := 0) (nn b W).length fun l hl=>hhi2 l hl j
   have k3:∀n,cmb (fun _ _=>0) e n 0=0:=by
    intro n
    induction n with
    | zero=>rfl
    | succ n ih=>show cmb (fun _ _=>0) e n 0+e n*0=0;rw[ih];omega
   rw[k1,k2,k3,if_pos (by omega)]
   exact Zas (by omega)
theorem ZlZ {m:Int} {W:Nat} {S:List (List Int)} (h:Rok m W S) (hW:W≤1000) {k:Nat} (hk:k < S.length):Zan.f (row S (k:Int))=some (row S (k:Int)):=Own_ _ (by have:=(h k hk).1;omega)
theorem Rel_ {m:Int} (m2:2≤m) (m12:m≤12) {W:Nat} (hW:W≤1000) {z b:List (List Int)} {Z Bs:Vc→Prop} (hz:Lead m W z Z) (hb:Lead m W b Bs) (u:List Int) :
  ∃RL,Za.l0 (W:Int) 0 m u b z []=(Zg.f RL ((nn z W).length:Int) m).bind (fun t130=>(Zd.f t130).bind fun t131=>some t131)∧Rok m (nn z W).length RL∧RL.length≤1000∧∀c,Mx m (nn z W).length RL c↔Bs (cmb (gen z (nn z W)) c (nn z W).length):=by
 have m0:0 < m:=by omega
 have zl:=hz.tab.len
 have bl:=hb.tab.len
 have loop0:=up W (fun k=>Za.l0 (W:Int) (k:Int) m u b z (sel z k)) (fun k hk=>by
  have sl:=ZbJ z k
  have nl:=nn_le z k
  rw[Za.l0_eq,wn (j:=k) (by omega)]
  by_cases h:row z (k:Int)=[]
  ·
   have e0:¬ ((row z (k:Int)).length:Int) > 0:=by rw[h];simp
   rw[Zke h]
   ((with_reducible repeat (first|refine Zi (by first|assumption|omega|rfl|exact B_pos (by omega)) ?_|refine Zh (by first|assumption|omega|decide|exact B_not (by omega)) ?_|refine Zf (by first|assumption) ?_|dsimp only));first|done|(with_reducible rfl)|simp (disch:=omega) only[w64]|(show False;done))
  ·
   have e0:((row z (k:Int)).length:Int) > 0:=by have:=List.length_pos_iff.2 h;omega
   have l1:([row z (k:Int)]:List (List Int)).length=1:=rfl
   rw[ZhG h]
   ((with_reducible repeat (first|refine Zi (by first|assumption|omega|rfl|exact B_pos (by omega)) ?_|refine Zh (by first|assumption|omega|decide|exact B_not (by omega)) ?_|refine Zf (by first|assumption) ?_|dsimp only));first|done|(with_reducible rfl)|simp (disch:=omega) only[w64]|(show False;done)))
 have loop0:Za.l0 (W:Int) 0 m u b z []=Za.l0 (W:Int) (W:Int) m u b z (sel z W):=loop0
 obtain⟨S,hS⟩:∃S,S=sel z W:=⟨_,rfl⟩
 obtain⟨r,hr⟩:∃r,r=(nn z W).length:=⟨_,rfl⟩
 have Sl:S.length=r:=by rw[hS,ZbJ,hr]
 have rW:r≤W:=by rw[hr];exact nn_le z W
 have Sok:Rok m W S:=by rw[hS];exact Rok.sel hz.tab
 rw[←hS]at loop0
 have loop1:=up r (fun k=>Za.l1 (W:Int) (k:Int) m u b S ((List.range k).map (rrow S b W))) (fun k hk=>by
  have hO:=ZlZ Sok hW (k:=k) (by omega)
  obtain⟨lk,ak⟩:=Sok k (by omega)
  have rl:(List.replicate r (0:Int)).length=r:=List.length_replicate
  have ul:((List.replicate r (0:Int)).set k 1).length=r:=by rw[List.length_set];exact rl
  have ml:((List.range k).map (rrow S b W)).length=k:=by simp
  have hrr:rrow S b W k=row S (k:Int)++(List.replicate r 0).set k 1:=by unfold rrow;rw[if_pos (by omega),Sl];rfl
  have l1:([row S (k:Int)++(List.replicate r 0).set k 1]:List (List Int)).length=1:=rfl
  have e1:(r:Int)=(r:Int):=rfl
  rw[Za.l1_eq,wn (j:=k) (by omega),List.range_succ,List.map_append,List.map_singleton,hrr,Sl,Int.toNat_natCast,Int.toNat_natCast]
  ((with_reducible repeat (first|refine Zi (by first|assumption|omega|rfl|exact B_pos (by omega)) ?_|refine Zh (by first|assumption|omega|decide|exact B_not (by omega)) ?_|refine Zf (by first|assumption) ?_|dsimp only));first|done|(with_reducible rfl)|simp (disch:=omega) only[w64]|(show False;done)))
 have loop1:Za.l1 (W:Int) 0 m u b S []=Za.l1 (W:Int) (r:Int) m u b S ((List.range r).map (rrow S b W)):=loop1
 have loop2:=up W (fun k=>Za.l2 (W:Int) (k:Int) m u b S ((List.range r).map (rrow S b W)++(sel b k).map fun x=>x++List.replicate r 0)) (fun k hk=>by
  have sl:=ZbJ b k
  have nl:=nn_le b k
  have rl:(List.replicate r (0:Int)).length=r:=List.length_replicate
  have ml:((List.range r).map (rrow S b W)++(sel b k).map fun x=>x++List.replicate r 0).length=r+(nn b k).length:=by rw[List.length_append,List.length_map,List.length_map,List.length_range,sl]
  rw[Za.l2_eq,wn (j:=k) (by omega)]
  by_cases h:row b (k:Int)=[]
  ·
   have e0:¬ ((row b (k:Int)).length:Int) > 0:=by rw[h];simp
   rw[Zke h]
   ((with_reducible repeat (first|refine Zi (by first|assumption|omega|rfl|exact B_pos (by omega)) ?_|refine Zh (by first|assumption|omega|decide|exact B_not (by omega)) ?_|refine Zf (by first|assumption) ?_|dsimp only));first|done|(with_reducible rfl)|simp (disch:=omega) only[w64]|(show False;done))
  ·
   have hP:=hb.tab.prow hk h
   have pl:=hP.len
   have e0:((row b (k:Int)).length:Int) > 0:=by have:=List.length_pos_iff.2 h;omega
   have hO:=Own_ (row b (k:Int)) (by omega)
   have l1:([row b (k:Int)++List.replicate r 0]:List (List Int)).length=1:=rfl
   rw[ZhG h,List.map_append,List.map_singleton,Sl,Int.toNat_natCast,←List.append_assoc]
   ((with_reducible repeat (first|refine Zi (by first|assumption|omega|rfl|exact B_pos (by omega)) ?_|refine Zh (by first|assumption|omega|decide|exact B_not (by omega)) ?_|refine Zf (by first|assumption) ?_|dsimp only));first|done|(with_reducible rfl)|simp (disch:=omega) only[w64]|(show False;done)))
 have loop2:Za.l2 (W:Int) 0 m u b S ((List.range r).map (rrow S b W)++[])=Za.l2 (W:Int) (W:Int) m u b S ((List.range r).map (rrow S b W)++(sel b W).map fun x=>x++List.replicate r 0):=loop2
 obtain⟨X,hX⟩:∃X,X=(List.range r).map (rrow S b W)++(sel b W).map fun x=>x++List.replicate r 0:=⟨_,rfl⟩
 have bn:=nn_le b W
 have Xl:X.length=r+(nn b W).length:=by rw[hX,List.length_append,List.length_map,List.length_map,List.length_range,ZbJ]
 have Xrow:∀i:Nat,i < X.length→row X (i:Int)=rrow S b W i:=fun i hi=>by
  by_cases h:i < r
  ·
   rw[Za0 hi]
   simp only[hX]
   rw[List.getElem_append_left (by simpa using h)]
   simp
  ·
   have hrr:rrow S b W i=row (sel b W) ((i - r:Nat):Int)++List.replicate r 0:=by unfold rrow;rw[if_neg (by omega),Sl]
   rw[hrr,Za0 hi,Za0 (by rw[ZbJ];omega)]
   simp only[hX]
   rw[List.getElem_append_right (by simp;omega)]
   simp
 have Xok:∀i:Nat,i < X.length→(row X (i:Int)).length=W+r∧AllIn m (row X (i:Int)):=fun i hi=>by
  rw[Xrow i hi]
  unfold rrow
  by_cases h:i < S.length
  ·
   rw[if_pos h]
   obtain⟨a1,a2⟩:=Sok i h
   exact⟨by rw[List.length_append,a1,ZbU,Sl],a2.append (Zep m2 _ _)⟩
  ·
   rw[if_neg h]
   obtain⟨a1,a2⟩:=Rok.sel hb.tab (i - S.length) (by rw[ZbJ];omega)
   exact⟨by rw[List.length_append,a1,List.length_replicate,Sl],a2.append (Zf5 m0 _)⟩
 obtain⟨p,p1,p2⟩:=ZhM (W:=W+r) m2 m12 (by omega) (X:=X) (by omega) Xok
 have p3:=p2.lead m0
 have pM:∀x,Sp m (W+r) (Gn (fun i=>row X (i:Int)) X.length) x↔Bs (fun i=>x i+(-1)*cmb (gen z (nn z W)) (fun k=>x (W+k)) r i):=fun x=>by
  have e:Gn (fun i=>row X (i:Int)) X.length=Gn (rrow (sel z W) b W) ((nn z W).length+(nn b W).length):=by
   funext v
   rw[←hS,←hr,←Xl]
   refine propext ⟨fun⟨i,hi,e⟩=>⟨i,hi,by rw[e];congr 1;exact Xrow i hi⟩,fun⟨i,hi,e⟩=>⟨i,hi,by rw[e];congr 1;exact(Xrow i hi).symm⟩⟩
  rw[e,hr]
  exact ZkZ m2 m12 hz hb x
 have q1:=ZbX (A:=W) (B:=r) m0 p3
 obtain⟨Q,hQ⟩:∃Q,Q=ZbP p W r:=⟨_,rfl⟩
 rw[←hQ]at q1
 have qrow:∀k:Nat,k < r→row Q (k:Int)=(row p ((W+k:Nat):Int)).drop W:=fun k hk=>by rw[hQ];exact Zee hk
 have pl:=p3.tab.len
 have loop3:=up r (fun k=>Za.l3 (W:Int) ((W+k:Nat):Int) m u S p (sel Q k)) (fun k hk=>by
  have sl:=ZbJ Q k
  have nl:=nn_le Q k
  have hq:=qrow k hk
  rw[show W+(k+1)=W+k+1 from rfl,Za.l3_eq,wn (j:=W+k) (by omega)]
  by_cases h:row p ((W+k:Nat):Int)=[]
  ·
   have e0:¬ ((row p ((W+k:Nat):Int)).length:Int) > 0:=by rw[h];simp
   rw[Zke (p:=Q) (W:=k) (by rw[hq,h];simp)]
   ((with_reducible repeat (first|refine Zi (by first|assumption|omega|rfl|exact B_pos (by omega)) ?_|refine Zh (by first|assumption|omega|decide|exact B_not (by omega)) ?_|refine Zf (by first|assumption) ?_|dsimp only));first|done|(with_reducible rfl)|simp (disch:=omega) only[w64]|(show False;done))
  ·
   have hP:=p3.tab.prow (show W+k < W+r by omega) h
   have pl' := hP.len
   have e0:((row p ((W+k:Nat):Int)).length:Int) > 0:=by omega
   have hd:((row p ((W+k:Nat):Int)).drop W).length=r:=by rw[List.length_drop,pl'];omega
   have hO:=Own_ ((row p ((W+k:Nat):Int)).drop W) (by omega)
   have l1:([(row p ((W+k:Nat):Int)).drop W]:List (List Int)).length=1:=rfl
   rw[ZhG (p:=Q) (W:=k) (fun e=>by rw[hq]at e;rw[e]at hd;simp at hd;omega),hq,Int.toNat_natCast]
   ((with_reducible repeat (first|refine Zi (by first|assumption|omega|rfl|exact B_pos (by omega)) ?_|refine Zh (by first|assumption|omega|decide|exact B_not (by omega)) ?_|refine Zf (by first|assumption) ?_|dsimp only));first|done|(with_reducible rfl)|simp (disch:=omega) only[w64]|(show False;done)))
 have loop3:Za.l3 (W:Int) (W:Int) m u S p []=Za.l3 (W:Int) ((W+r:Nat):Int) m u S p (sel Q r):=loop3
 have w:wrapI ((W:Int)+(r:Int))=((W+r:Nat):Int):=by rw[w64 (by omega) (by omega)];omega
 have rok:=Rok.sel q1.tab
 refine⟨sel Q r,?_,by rw[←hr];exact rok,by rw[ZbJ];have:=nn_le Q r;omega,fun c => ?_⟩
 ·
  have f0:Za.l0 (W:Int) (W:Int) m u b z S=Za.l1 (W:Int) 0 m u b S []:=by
   rw[Za.l0_eq];((with_reducible repeat (first|refine Zi (by first|assumption|omega|rfl|exact B_pos (by omega)) ?_|refine Zh (by first|assumption|omega|decide|exact B_not (by omega)) ?_|refine Zf (by first|assumption) ?_|dsimp only));first|done|(with_reducible rfl)|simp (disch:=omega) only[w64]|(show False;done))
  have f1:Za.l1 (W:Int) (r:Int) m u b S ((List.range r).map (rrow S b W))=Za.l2 (W:Int) 0 m u b S ((List.range r).map (rrow S b W)):=by
   rw[Za.l1_eq,Sl];((with_reducible repeat (first|refine Zi (by first|assumption|omega|rfl|exact B_pos (by omega)) ?_|refine Zh (by first|assumption|omega|decide|exact B_not (by omega)) ?_|refine Zf (by first|assumption) ?_|dsimp only));first|done|(with_reducible rfl)|simp (disch:=omega) only[w64]|(show False;done))
  have f2:Za.l2 (W:Int) (W:Int) m u b S X=Za.l3 (W:Int) (W:Int) m u S p []:=by
   rw[Za.l2_eq,Sl,w]
   (with_reducible repeat (first|refine Zi (by first|assumption|omega|rfl|exact B_pos (by omega)) ?_|refine Zh (by first|assumption|omega|decide|exact B_not (by omega)) ?_|refine Zf (by first|assumption) ?_|dsimp only))
   all_goals rfl
  rw[List.append_nil]at loop2
  rw[loop0,f0,loop1,f1,loop2,←hX,f2,loop3,Za.l3_eq,Sl,←hr]
  (with_reducible repeat (first|refine Zi (by first|assumption|omega|rfl|exact B_pos (by omega)) ?_|refine Zh (by first|assumption|omega|decide|exact B_not (by omega)) ?_|refine Zf (by first|assumption) ?_|dsimp only))
  all_goals rfl
 ·
  rw[←hr,Zms m2 m12 q1,pM]
  have e1:(fun k=>pad W c (W+k))=c:=funext fun k=>by unfold pad;rw[if_neg (by omega),show W+k - W=k by omega]
  rw[e1]
  constructor
  ·
   intro h
   refine hb.sub.alike _ _ (hb.sub.lin _ _ hb.sub.zero h (-1)) fun i hi=>Zas ?_
   show 0 + -1*(pad W c i + -1*cmb (gen z (nn z W)) c r i)=_
   unfold pad
   rw[if_pos hi]
   omega
  ·
   intro h
   refine hb.sub.alike _ _ (hb.sub.lin _ _ hb.sub.zero h (-1)) fun i hi=>Zas ?_
   show 0 + -1*cmb (gen z (nn z W)) c r i=pad W c i + -1*cmb (gen z (nn z W)) c r i
   unfold pad
   rw[if_pos hi]
structure InvOf (m:Int) (W:Nat) (Z Bs:Vc→Prop) (L:List Int):Prop where
 chn:Chn m L
 dia:∃(p:List (List Int)) (ns:List Int),Lead m W p Z∧(∀n∈ns,0 < n∧n∣m)∧ns.length=(nn p W).length∧(∀t∈qs,cq t.1 L=cq t.1 ns)∧L.length≤ns.length∧Dg m (nn p W).length (fun c=>Bs (cmb (gen p (nn p W)) c (nn p W).length)) ns
theorem Zg0 {g:List (List Int)} (hg:Grp g) {m:Int} {u:List Int} (hm:Mdl g m u) {n:Nat} (hn:n≤3) (hr:nB g n≤49):∃L,Za.f g m u (n:Int)=some L∧InvOf m (nB g n) (coM g m u n) (Sp m (nB g n) (bdG g m u n)) L:=by
 have m2:=hm.m2;have m12:=hm.m12
 obtain⟨b,z,h1,h2,h3⟩:=Both_ hg hm hn
 have hc:=Zes hg (d:=(n:Int)) (by omega) (by omega)
 rw[←(nA_bd hg (e:=n) (by omega)).2]at hc
 obtain⟨RL,k1,k2,k3,k4⟩:=Rel_ m2 m12 (by omega) h3 h2 u
 have rl:=nn_le z (nB g n)
 obtain⟨ns,n1,n2,n3,n4⟩:=ZlD m2 m12 (nn z (nB g n)).length RL [] (by omega) k2 (by omega) (by rw[List.length_nil];omega)
 obtain⟨L,l1,l2,l3,l4⟩:=Zmf m2 m12 n3 (by omega)
 refine⟨L,?_,l2,z,ns,h3,n3,n2,l3,l4,?_⟩
 ·
  rw[Za.f_eq,h1]
  show(Zy.f g (n:Int)).bind _=_
  rw[hc]
  show Za.l0 _ _ _ _ _ _ _=_
  rw[k1,Zg.f_eq,n1,List.nil_append]
  show(Zd.f ns).bind _=_
  rw[l1]
  rfl
 ·
  exact n4.eqd (.of fun c=>(k4 c).symm)
end Go.Proofs.Ytdamfbighdkcbaa.V
set_option maxHeartbeats 4000000
namespace Go.Proofs.Ytdamfbighdkcbaa.V
open Go.RowKit Go.Proofs.Ytdamfbighdkcbaa.D Go.Proofs.Ytdamfbighdkcbaa.P
theorem ZiI (a b:Int):wrapI (wrapI a*b)=wrapI (a*b):=by
 have e:∀x:Int,wrapI x=wrap64 x:=fun x=>ZcM _
 rw[e,e,e]
 obtain⟨q,hq⟩:∃q:Int,wrap64 a=a+18446744073709551616*q:=⟨-((a+9223372036854775808) / 18446744073709551616),by
  have:=Int.mul_ediv_add_emod (a+9223372036854775808) 18446744073709551616
  unfold wrap64
  rw[Int.mul_neg]
  omega⟩
 rw[hq,Int.add_mul,Int.mul_assoc]
 unfold wrap64
 rw[show a*b+18446744073709551616*(q*b)+9223372036854775808=a*b+9223372036854775808+18446744073709551616*(q*b)by omega,Int.add_mul_emod_self_left]
theorem ZcY {α : Type} (f g : α → Nat):∀l:List α,prodN (l.map f)*prodN (l.map g)=prodN (l.map fun x=>f x*g x)
 | []=>rfl
 | x :: l=>by
  simp only[List.map_cons,prodN]
  rw[←ZcY f g l,Nat.mul_mul_mul_comm]
theorem Zc3 {α : Type} {f : α → Nat} {c:Nat}:∀l:List α,(∀x∈l,f x=c)→prodN (l.map f)=c ^ l.length
 | [],_=>rfl
 | x :: l,h=>by
  simp only[List.map_cons,prodN]
  rw[Zc3 l fun y hy=>h y (List.mem_cons_of_mem _ hy),h x List.mem_cons_self,List.length_cons,Nat.pow_succ,Nat.mul_comm]
theorem ZdH {α : Type} {f g : α → Nat}:∀l:List α,(∀x∈l,f x=g x)→prodN (l.map f)=prodN (l.map g)
 | [],_=>rfl
 | x :: l,h=>by
  simp only[List.map_cons,prodN]
  rw[ZdH l fun y hy=>h y (List.mem_cons_of_mem _ hy),h x List.mem_cons_self]
def evN:Nat→Nat→Nat→Nat
 | 0,_,_=>0
 | f+1,p,A=>if A%p=0 then evN f p (A / p)+1 else 0
theorem expo_ {p:Nat} (p2:2≤p) (p11:p≤11):∀(f A k:Nat),1≤A→A < 2 ^ f→A≤100000→k+f≤100000→ZZ.l0 (p:Int) (A:Int) (k:Int)=some ((k+evN f p A:Nat):Int):=by
 intro f
 induction f with
 | zero=>intro A k h1 h2;simp at h2;omega
 | succ f ih =>
  intro A k h1 h2 h3 h4
  have hm:(A:Int)%(p:Int)=((A%p:Nat):Int):=(Int.natCast_emod A p).symm
  have hd:(A:Int) / (p:Int)=((A / p:Nat):Int):=(Int.natCast_ediv A p).symm
  rw[ZZ.l0_eq,if_neg (by omega),ZeZ (by omega),hm]
  by_cases q:A%p=0
  ·
   have hdm:=Nat.div_add_mod A p
   have hpos:1≤A / p:=by
    rcases Nat.eq_zero_or_pos (A / p)with w|w
    ·
     rw[w,q]at hdm;omega
    ·
     exact w
   have hlt:A / p < 2 ^ f:=by
    rw[Nat.pow_succ]at h2
    exact Nat.div_lt_of_lt_mul (Nat.lt_of_lt_of_le h2 (by rw[Nat.mul_comm];exact Nat.mul_le_mul_right _ p2))
   have hle:=Nat.div_le_self A p
   have:=ih (A / p) (k+1) hpos hlt (by omega) (by omega)
   rw[if_pos (by omega),if_neg (by omega),Zf4 (by omega),hd,w64 (x:=((A / p:Nat):Int)) (by omega) (by omega),wn (j:=k) (by omega),this]
   show _=some ((k+(if A%p=0 then evN f p (A / p)+1 else 0):Nat):Int)
   rw[if_pos q,show k+1+evN f p (A / p)=k+(evN f p (A / p)+1)by omega]
  ·
   rw[if_neg (by omega)]
   show _=some ((k+(if A%p=0 then evN f p (A / p)+1 else 0):Nat):Int)
   rw[if_neg q]
   rfl
def pr5:List Nat:=[2,3,5,7,11]
theorem Zml:((List.range 13).all fun A=>decide (A=0) || (decide (prodN (pr5.map fun p=>p ^ evN 8 p A)=A) && pr5.all fun p=>decide (evN 8 p A≤8)))=true:=by decide +kernel
theorem ZjF:((List.range 13).all fun A=>(List.range 13).all fun B=>decide (A=0) || decide (B=0) || decide (¬ A%B=0) || pr5.all fun p=>decide (evN 8 p B≤evN 8 p A))=true:=by decide +kernel
theorem ev_ok {A:Nat} (h1:1≤A) (h12:A≤12):prodN (pr5.map fun p=>p ^ evN 8 p A)=A∧∀p∈pr5,evN 8 p A≤8:=by
 have h:=List.all_eq_true.1 Zml A (List.mem_range.2 (by omega))
 simp only[Bool.or_eq_true,Bool.and_eq_true,decide_eq_true_eq,List.all_eq_true]at h
 rcases h with h|h
 ·
  omega
 ·
  exact h
theorem ev_le {A B:Nat} (h1:1≤A) (h12:A≤12) (b1:1≤B) (b12:B≤12) (hd:B∣A):∀p∈pr5,evN 8 p B≤evN 8 p A:=by
 have h:=List.all_eq_true.1 (List.all_eq_true.1 ZjF A (List.mem_range.2 (by omega))) B (List.mem_range.2 (by omega))
 simp only[Bool.or_eq_true,decide_eq_true_eq,List.all_eq_true]at h
 rcases h with ((h|h)|h)|h
 ·
  omega
 ·
  omega
 ·
  exact absurd (Nat.mod_eq_zero_of_dvd hd) h
 ·
  exact h
def sv (p:Nat):List Int→Nat
 | []=>0
 | n :: l=>evN 8 p n.toNat+sv p l
theorem ZhI:∀l:List Int,(∀n∈l,1≤n∧n≤12)→prI l=prodN (pr5.map fun p=>p ^ sv p l)
 | [],_=>by
  show 1=_
  rw[Zc3 (c:=1) pr5 fun p _=>by show p ^ 0=1;rw[Nat.pow_zero],Nat.one_pow]
 | n :: l,h=>by
  have ih:=ZhI l fun x hx=>h x (List.mem_cons_of_mem _ hx)
  have hn:=h n List.mem_cons_self
  have e:=(ev_ok (A:=n.toNat) (by omega) (by omega)).1
  show n.toNat*prI l=_
  rw[ih]
  conv=>lhs;lhs;rw[←e]
  rw[ZcY]
  exact ZdH _ fun p _=>(Nat.pow_add ..).symm
theorem sv_le {p:Nat} (hp:p∈pr5):∀(a b:List Int),b.length=a.length→(∀i:Nat,i < a.length→1≤rd a (i:Int)∧rd a (i:Int)≤12∧1≤rd b (i:Int)∧rd b (i:Int)≤12∧rd b (i:Int)∣rd a (i:Int))→sv p b≤sv p a
 | [],[],_,_=>Nat.le_refl _
 | x :: a,y :: b,hl,h=>by
  have s:∀(z:Int) (l:List Int) (i:Nat),rd (z :: l) ((i+1:Nat):Int)=rd l (i:Int):=fun z l i=>by rw[Zec,Zec];rfl
  have ih:=sv_le hp a b (by simpa using hl) fun i hi=>by
   have:=h (i+1) (by rw[List.length_cons];omega)
   rwa[s,s]at this
  obtain⟨a1,a2,a3,a4,a5⟩:=h 0 (by rw[List.length_cons];omega)
  have a1:1≤x:=a1
  have a2:x≤12:=a2
  have a3:1≤y:=a3
  have a4:y≤12:=a4
  have a5:y∣x:=a5
  have:=ev_le (A:=x.toNat) (B:=y.toNat) (by omega) (by omega) (by omega) (by omega) (by
   have e:(y.toNat:Int)∣(x.toNat:Int):=by rw[Int.toNat_of_nonneg (by omega),Int.toNat_of_nonneg (by omega)];exact a5
   exact Int.natCast_dvd_natCast.1 e) p hp
  show evN 8 p y.toNat+sv p b≤evN 8 p x.toNat+sv p a
  omega
 | [],_ :: _,hl,_=>by simp at hl
 | _ :: _,[],hl,_=>by simp at hl
theorem Zkk {p:Nat} {l:List Int} {k:Nat} (h:k < l.length):sv p (l.take (k+1))=sv p (l.take k)+evN 8 p (rd l (k:Int)).toNat:=by
 have app:∀(a b:List Int),sv p (a++b)=sv p a+sv p b:=fun a b=>by
  induction a with
  | nil=>show _=0+_;rw[Nat.zero_add];rfl
  | cons x a ih=>show evN 8 p x.toNat+sv p (a++b)=evN 8 p x.toNat+sv p a+sv p b;rw[ih];omega
 rw[List.take_add_one,List.getElem?_eq_getElem h,←Za4 h,app]
 rfl
theorem sv_bd {p:Nat} (hp:p∈pr5):∀(l:List Int),(∀n∈l,1≤n∧n≤12)→sv p l≤8*l.length
 | [],_=>Nat.zero_le _
 | n :: l,h=>by
  have hn:=h n List.mem_cons_self
  have:=(ev_ok (A:=n.toNat) (by omega) (by omega)).2 p hp
  have ih:=sv_bd hp l fun x hx=>h x (List.mem_cons_of_mem _ hx)
  show evN 8 p n.toNat+sv p l≤8*(l.length+1)
  omega
theorem Zij {l:List Int} {n:Int} (h:n∈l):∃i:Int,0≤i∧i < l.length∧rd l i=n:=by
 obtain⟨i,hi,rfl⟩:=List.mem_iff_getElem.1 h
 exact⟨(i:Int),by omega,by omega,Za4 hi⟩
theorem Zl9 {m m' : Int} {p p' : List (List Int)} {a b:List Int} (al:a.length≤1000) (bl:b.length=a.length) (hab:∀i:Nat,i < a.length→1≤rd a (i:Int)∧rd a (i:Int)≤12∧1≤rd b (i:Int)∧rd b (i:Int)≤12∧rd b (i:Int)∣rd a (i:Int))
  (h1:ZC.f m p=some (a,m,p)) (h2:ZC.f m' p' = some (b,m', p')):Zj.f m p m' p' = some (wrapI ((prodN (pr5.map fun q=>q ^ (sv q a - sv q b)):Nat):Int),m,p,m', p'):=by
 have lp:([2,3,5,7,11]:List Int).length=5:=rfl
 have mem_a:∀n∈a,1≤n∧n≤12:=fun n hn=>by
  obtain⟨i,i0,i1,rfl⟩:=Zij hn
  obtain⟨k,rfl⟩:=Int.eq_ofNat_of_zero_le i0
  have:=hab k (by omega)
  omega
 have mem_b:∀n∈b,1≤n∧n≤12:=fun n hn=>by
  obtain⟨i,i0,i1,rfl⟩:=Zij hn
  obtain⟨k,rfl⟩:=Int.eq_ofNat_of_zero_le i0
  have:=hab k (by omega)
  omega
 have prs_rd:∀k:Nat,k < 5→rd ([2,3,5,7,11]:List Int) (k:Int)=((pr5.getD k 0:Nat):Int)∧pr5.getD k 0∈pr5∧2≤pr5.getD k 0∧pr5.getD k 0≤11:=fun k hk=>by
  have:k=0∨k=1∨k=2∨k=3∨k=4:=by omega
  rcases this with rfl|rfl|rfl|rfl|rfl <;> exact⟨rfl,by decide,by decide,by decide⟩
 have main:=up 5 (fun k=>Zj.l0 (wrapI ((prodN ((pr5.take k).map fun q=>q ^ (sv q a - sv q b)):Nat):Int)) 5 (k:Int) m m' p p' a b [2,3,5,7,11]) (fun k hk=>by
  obtain⟨r1,r2,r3,r4⟩:=prs_rd k hk
  have e:prodN ((pr5.take (k+1)).map fun q=>q ^ (sv q a - sv q b))=prodN ((pr5.take k).map fun q=>q ^ (sv q a - sv q b))*(pr5.getD k 0) ^ (sv (pr5.getD k 0) a - sv (pr5.getD k 0) b):=by
   have app:∀(l l' : List Nat),prodN (l++l')=prodN l*prodN l' := fun l l' => by
    induction l with
    | nil=>show _=1*_;rw[Nat.one_mul];rfl
    | cons x l ih=>show x*prodN (l++l')=x*prodN l*prodN l';rw[ih,Nat.mul_assoc]
   have l5:pr5.length=5:=rfl
   rw[List.take_add_one,List.getD_eq_getElem?_getD,List.getElem?_eq_getElem (show k < pr5.length by omega),List.map_append,app]
   show _*(_*1)=_
   rw[Nat.mul_one]
   rfl
  obtain⟨P,hP⟩:∃P,P=pr5.getD k 0:=⟨_,rfl⟩
  rw[←hP]at r1 r2 r3 r4 e
  obtain⟨Q,hQ⟩:∃Q,Q=prodN ((pr5.take k).map fun q=>q ^ (sv q a - sv q b)):=⟨_,rfl⟩
  rw[←hQ]at e
  rw[e,←hQ]
  have expo:∀n:Int,1≤n→n≤12→ZZ.f (P:Int) n=some ((evN 8 P n.toNat:Nat):Int):=fun n n1 n2=>by
   have:=expo_ r3 r4 8 n.toNat 0 (by omega) (by omega) (by omega) (by omega)
   rw[Int.toNat_of_nonneg (by omega),Nat.zero_add]at this
   rw[ZZ.f_eq]
   exact this
  have sum:=up a.length (fun i=>Zj.l1 (wrapI (Q:Int)) (P:Int) ((sv P (a.take i):Nat) - (sv P (b.take i):Nat):Int) 5 (k:Int) (a.length:Int) (i:Int) m m' p p' a b [2,3,5,7,11]) (fun i hi=>by
   obtain⟨a1,a2,a3,a4,_⟩:=hab i hi
   have x1:=expo _ a1 a2
   have x2:=expo _ a3 a4
   have s1:=Zkk (p:=P) (l:=a) (k:=i) hi
   have s2:=Zkk (p:=P) (l:=b) (k:=i) (by omega)
   have b1:=sv_bd r2 (a.take (i+1)) fun n hn=>mem_a n (List.mem_of_mem_take hn)
   have b2:=sv_bd r2 (b.take (i+1)) fun n hn=>mem_b n (List.mem_of_mem_take hn)
   rw[List.length_take]at b1 b2
   have hw:wrapI (((sv P (a.take i):Nat) - (sv P (b.take i):Nat):Int)+wrapI (((evN 8 P (rd a (i:Int)).toNat:Nat):Int) - ((evN 8 P (rd b (i:Int)).toNat:Nat):Int)))=((sv P (a.take (i+1)):Nat) - (sv P (b.take (i+1)):Nat):Int):=by
    rw[w64 (x:=((evN 8 P (rd a (i:Int)).toNat:Nat):Int) - ((evN 8 P (rd b (i:Int)).toNat:Nat):Int)) (by omega) (by omega),w64 (by omega) (by omega)];omega
   rw[Zj.l1_eq,wn (j:=i) (by omega),x1,Option.bind_some,x2,Option.bind_some,hw]
   ((with_reducible repeat (first|refine Zi (by first|assumption|omega|rfl|exact B_pos (by omega)) ?_|refine Zh (by first|assumption|omega|decide|exact B_not (by omega)) ?_|refine Zf (by first|assumption) ?_|dsimp only));first|done|(with_reducible rfl)|simp (disch:=omega) only[w64]|(show False;done)))
  rw[List.take_length,←bl,List.take_length,bl]at sum
  have sum:Zj.l1 (wrapI (Q:Int)) (P:Int) 0 5 (k:Int) (a.length:Int) 0 m m' p p' a b [2,3,5,7,11]=_:=sum
  have le:=sv_le r2 a b bl hab
  have ba:=sv_bd r2 a mem_a
  obtain⟨E,hE⟩:∃E,E=sv P a - sv P b:=⟨_,rfl⟩
  have hE' : ((sv P a:Nat) - (sv P b:Nat):Int)=(E:Int):=by omega
  rw[hE']at sum
  have pw:=up E (fun j=>Zj.l2 (wrapI ((Q*P ^ j:Nat):Int)) (P:Int) 5 (k:Int) (E:Int) (j:Int) m m' p p' a b [2,3,5,7,11]) (fun j hj=>by
   have hw:wrapI (wrapI ((Q*P ^ j:Nat):Int)*(P:Int))=wrapI ((Q*P ^ (j+1):Nat):Int):=by
    rw[ZiI,←Int.natCast_mul,Nat.pow_succ,←Nat.mul_assoc]
   rw[Zj.l2_eq,wn (j:=j) (by omega),hw]
   ((with_reducible repeat (first|refine Zi (by first|assumption|omega|rfl|exact B_pos (by omega)) ?_|refine Zh (by first|assumption|omega|decide|exact B_not (by omega)) ?_|refine Zf (by first|assumption) ?_|dsimp only));first|done|(with_reducible rfl)|simp (disch:=omega) only[w64]|(show False;done)))
  rw[Nat.pow_zero,Nat.mul_one]at pw
  have pw:Zj.l2 (wrapI (Q:Int)) (P:Int) 5 (k:Int) (E:Int) 0 m m' p p' a b [2,3,5,7,11]=_:=pw
  have f1:Zj.l1 (wrapI (Q:Int)) (P:Int) (E:Int) 5 (k:Int) (a.length:Int) (a.length:Int) m m' p p' a b [2,3,5,7,11]=Zj.l2 (wrapI (Q:Int)) (P:Int) 5 (k:Int) (E:Int) 0 m m' p p' a b [2,3,5,7,11]:=by
   rw[Zj.l1_eq]
   ((with_reducible repeat (first|refine Zi (by first|assumption|omega|rfl|exact B_pos (by omega)) ?_|refine Zh (by first|assumption|omega|decide|exact B_not (by omega)) ?_|refine Zf (by first|assumption) ?_|dsimp only));first|done|(with_reducible rfl)|simp (disch:=omega) only[w64]|(show False;done))
  have f2:Zj.l2 (wrapI ((Q*P ^ E:Nat):Int)) (P:Int) 5 (k:Int) (E:Int) (E:Int) m m' p p' a b [2,3,5,7,11]=Zj.l0 (wrapI ((Q*P ^ E:Nat):Int)) 5 ((k+1:Nat):Int) m m' p p' a b [2,3,5,7,11]:=by
   rw[Zj.l2_eq,wn (j:=k) (by omega)]
   ((with_reducible repeat (first|refine Zi (by first|assumption|omega|rfl|exact B_pos (by omega)) ?_|refine Zh (by first|assumption|omega|decide|exact B_not (by omega)) ?_|refine Zf (by first|assumption) ?_|dsimp only));first|done|(with_reducible rfl)|simp (disch:=omega) only[w64]|(show False;done))
  rw[←hE,←f2,←pw,←f1,←sum,Zj.l0_eq,r1]
  ((with_reducible repeat (first|refine Zi (by first|assumption|omega|rfl|exact B_pos (by omega)) ?_|refine Zh (by first|assumption|omega|decide|exact B_not (by omega)) ?_|refine Zf (by first|assumption) ?_|dsimp only));first|done|(with_reducible rfl)|simp (disch:=omega) only[w64]|(show False;done)))
 have w1:wrapI ((prodN ((pr5.take 0).map fun q=>q ^ (sv q a - sv q b)):Nat):Int)=1:=w64 (by show(-9223372036854775808:Int)≤1;omega) (by show(1:Int) < 9223372036854775808;omega)
 simp only[w1]at main
 have main:Zj.l0 1 5 0 m m' p p' a b [2,3,5,7,11]=Zj.l0 (wrapI ((prodN (pr5.map fun q=>q ^ (sv q a - sv q b)):Nat):Int)) 5 ((5:Nat):Int) m m' p p' a b [2,3,5,7,11]:=main
 rw[Zj.f_eq,h1,Option.bind_some,h2,Option.bind_some]
 dsimp only
 rw[lp]
 refine Eq.trans main ?_
 rw[Zj.l0_eq,if_neg (by omega)]
end Go.Proofs.Ytdamfbighdkcbaa.V
namespace Go.Proofs.Ytdamfbighdkcbaa.V
open Go.RowKit Go.Proofs.Ytdamfbighdkcbaa.D Go.Proofs.Ytdamfbighdkcbaa.P
theorem Zmw:((List.range 13).all fun A=>decide (A=0) || decide (prodN (qs.map fun t=>if A%t.1=0 then t.2.1 else 1)=A))=true:=by decide +kernel
theorem Zj6:∀l:List Int,(∀n∈l,0 < n∧n≤12)→prI l=prodN (qs.map fun t=>t.2.1 ^ cq t.1 l)
 | [],_=>by
  show 1=_
  rw[Zc3 (c:=1) qs fun t _=>by show t.2.1 ^ 0=1;rw[Nat.pow_zero],Nat.one_pow]
 | n :: l,h=>by
  have ih:=Zj6 l fun x hx=>h x (List.mem_cons_of_mem _ hx)
  have hn:=h n List.mem_cons_self
  have e:prodN (qs.map fun t=>if n.toNat%t.1=0 then t.2.1 else 1)=n.toNat:=by
   have h:=List.all_eq_true.1 Zmw n.toNat (List.mem_range.2 (by omega))
   simp only[Bool.or_eq_true,decide_eq_true_eq]at h
   rcases h with h|h
   ·
    omega
   ·
    exact h
  show n.toNat*prI l=_
  rw[ih]
  conv=>lhs;lhs;rw[←e]
  rw[ZcY]
  refine ZdH _ fun t _ => ?_
  rw[ZcK]
  have hm:n%(t.1:Int)=0↔n.toNat%t.1=0:=by
   have e:n%(t.1:Int)=((n.toNat%t.1:Nat):Int):=by
    rw[Int.natCast_emod,Int.toNat_of_nonneg (by omega)]
   rw[e];omega
  by_cases q:n.toNat%t.1=0
  ·
   rw[if_pos q,if_pos (hm.2 q),Nat.pow_add,Nat.pow_one,Nat.mul_comm]
  ·
   rw[if_neg q,if_neg (fun k=>q (hm.1 k)),Nat.one_mul,Nat.add_zero]
theorem ct_pos' {m:Int} (m2:2≤m) (m12:m≤12) {W:Nat} {p:List (List Int)} {M:Vc→Prop} (h:Lead m W p M):0 < ct m W M:=by
 have e:=Zjz m2 m12 h
 have:0 < m.toNat ^ W:=Nat.pow_pos (by omega)
 rcases Nat.eq_zero_or_pos (ct m W M)with z|z
 ·
  rw[z,Nat.zero_mul]at e;omega
 ·
  exact z
theorem InvOf.size {m:Int} (m2:2≤m) (m12:m≤12) {W:Nat} {Z Bs:Vc→Prop} (hB:Sub m W Bs) (hBZ:∀x,Bs x→Z x) {L:List Int} (h:InvOf m W Z Bs L):prI L*ct m W Bs=ct m W Z:=by
 obtain⟨p,ns,a1,a2,a3,a4,_,a6⟩:=h.dia
 have le:∀n:Int,0 < n→n∣m→n≤12:=fun n h0 hd=>by have:=Int.le_of_dvd (by omega) hd;omega
 have e1:prI L=prI ns:=by
  rw[Zj6 L fun n hn=>by have:=h.chn.ent n hn;exact⟨by omega,le n (by omega) this.2⟩,Zj6 ns fun n hn=>by have:=a2 n hn;exact⟨this.1,le n this.1 this.2⟩]
  exact ZdH _ fun t ht=>by rw[a4 t ht]
 have k1:=Zmy (m:=m) (by omega) (G:=gen p (nn p W)) a1.sub hB (ZfD m2 m12 a1) hBZ (L:=fun c=>Bs (cmb (gen p (nn p W)) c (nn p W).length)) (fun c=>Iff.rfl) m
 rw[a6 m (by omega) (Int.dvd_refl m)]at k1
 have k2:=Zlu (m:=m) (by omega) ns a2
 rw[a3]at k2
 have hX:(fun x=>∃b z,Bs b∧Z z∧∀i,i < W→m∣b i+m*z i - x i)=Bs:=by
  funext x
  refine propext ⟨fun⟨b,z,h1,h2,h3⟩=>hB.alike _ _ h1 fun i hi => ?_,fun hx=>⟨x,fun _=>0,hx,a1.sub.zero,fun i _=>Zas (by show x i+m*0=x i;omega)⟩⟩
  have:=Int.dvd_sub (h3 i hi) (Int.dvd_mul_right m (z i))
  rwa[show ∀a b c:Int,a+b - c - b=a - c from fun a b c=>by omega]at this
 rw[hX]at k1
 have mp:0 < m.toNat ^ (nn p W).length:=Nat.pow_pos (by omega)
 rw[e1]
 refine Nat.eq_of_mul_eq_mul_left mp ?_
 rw[Nat.mul_left_comm,←k1,←Nat.mul_assoc,k2]
theorem Zix {m:Int} {W:Nat} {p:List (List Int)} {j:Nat} (hj:j < W):rd (Zbp m p W) (j:Int)=m / dv m p j:=by
 rw[Za4 (by simp[Zbp];exact hj)]
 simp[Zbp]
theorem Ziy {m:Int} (m2:2≤m) (m12:m≤12) {W:Nat} {p:List (List Int)} {M:Vc→Prop} (h:Lead m W p M):prI (Zbp m p W)=ct m W M:=by
 have e:=Zjz m2 m12 h
 have k:prI (Zbp m p W)*prodN (dvl m p W)=m.toNat ^ W:=by
  show prodN (((List.range W).map fun j=>m / dv m p j).map Int.toNat)*prodN ((List.range W).map fun j=>(dv m p j).toNat)=_
  rw[List.map_map,ZcY,Zc3 (c:=m.toNat) _ fun j hj => ?_,List.length_range]
  have hj:=List.mem_range.1 hj
  obtain⟨d0,d1,q,hq⟩:=dv_bd (by omega) h.tab hj
  show(m / dv m p j).toNat*(dv m p j).toNat=m.toNat
  have dq:m / dv m p j=q:=by
   have:=Int.mul_ediv_cancel_left q (show dv m p j≠0 by omega)
   rwa[←hq]at this
  rw[dq]
  obtain⟨D,hD⟩:=Int.eq_ofNat_of_zero_le (show 0≤dv m p j by omega)
  have q0:0≤q:=by
   rcases Int.lt_or_le q 0 with w|w
   ·
    have:=Int.mul_pos d0 (show 0 < -q by omega)
    rw[Int.mul_neg]at this
    omega
   ·
    exact w
  obtain⟨Q,rfl⟩:=Int.eq_ofNat_of_zero_le q0
  rw[hD]at hq ⊢
  rw[←Int.natCast_mul]at hq
  rw[hq,Int.toNat_natCast,Int.toNat_natCast,Int.toNat_natCast,Nat.mul_comm]
 rw[e]at k
 have pos:0 < prodN (dvl m p W):=by
  rcases Nat.eq_zero_or_pos (prodN (dvl m p W))with z|z
  ·
   rw[z,Nat.mul_zero]at e
   have:0 < m.toNat ^ W:=Nat.pow_pos (by omega)
   omega
  ·
   exact z
 exact Nat.eq_of_mul_eq_mul_right pos k
theorem Zmu {g:List (List Int)} (hg:Grp g) {m:Int} {u:List Int} (hm:Mdl g m u) {n:Nat} (hn:n≤3) (hr:nB g n≤49):∃(q b:List (List Int)) (L:List Int),Zap.f g m u (n:Int)=some (m,q)∧ZN.f g m u (n:Int)=some (m,b)∧Za.f g m u (n:Int)=some L ∧
  InvOf m (nB g n) (coM g m u n) (Sp m (nB g n) (bdG g m u n)) L∧Zj.f m q m b=some (wrapI ((prI L:Nat):Int),m,q,m,b)∧ZY.l0 1 0 L=some (wrapI ((prI L:Nat):Int)):=by
 have m2:=hm.m2;have m12:=hm.m12
 obtain⟨z,z1,z2⟩:=Zgk hg hm hn
 obtain⟨b,b1,b2⟩:=ZiK hg hm hn
 have b2:=b2.lead (by omega)
 have hBZ:∀x,Sp m (nB g n) (bdG g m u n) x→coM g m u n x:=fun x hx=>bd_co hg hm hn hx
 obtain⟨L,l1,l2⟩:=Zg0 hg hm hn hr
 refine⟨z,b,L,z1,b1,l1,l2,?_,?_⟩
 ·
  have s1:=Zlv m2 m12 (by omega) z2.tab
  have s2:=Zlv m2 m12 (by omega) b2.tab
  have la:(Zbp m z (nB g n)).length=nB g n:=by simp[Zbp]
  have lb:(Zbp m b (nB g n)).length=nB g n:=by simp[Zbp]
  have hab:∀i:Nat,i < (Zbp m z (nB g n)).length→1≤rd (Zbp m z (nB g n)) (i:Int)∧rd (Zbp m z (nB g n)) (i:Int)≤12∧1≤rd (Zbp m b (nB g n)) (i:Int)∧rd (Zbp m b (nB g n)) (i:Int)≤12∧rd (Zbp m b (nB g n)) (i:Int)∣rd (Zbp m z (nB g n)) (i:Int):=fun i hi=>by
   rw[la]at hi
   rw[Zix hi,Zix hi]
   obtain⟨d0,d1,q,hq⟩:=dv_bd (by omega) z2.tab hi
   obtain⟨e0,e1,r,hr'⟩:=dv_bd (by omega) b2.tab hi
   have hd:dv m z i∣dv m b i:=by
    by_cases hb:row b (i:Int)=[]
    ·
     rw[show dv m b i=m from if_pos hb];exact⟨q,hq⟩
    ·
     rw[show dv m b i=rd (row b (i:Int)) (i:Int)from if_neg hb]
     have hP:=b2.tab.prow hi hb
     exact z2.lead _ (hBZ _ (b2.own i hi hb)) i hi fun k hk=>by rw[show V (row b (i:Int)) k=0 from hP.zero k hk];exact Int.dvd_zero m
   have pos:∀d q:Int,0 < d→m=d*q→1≤q∧q≤12:=fun d q h0 h=>by
    have q1:0 < q:=by
     rcases Int.lt_or_le 0 q with w|w
     ·
      exact w
     ·
      have:=Int.mul_nonneg (show 0≤d by omega) (show 0 ≤ -q by omega)
      rw[Int.mul_neg]at this
      omega
    have:=Int.le_of_dvd (show 0 < m by omega) (show q∣m from⟨d,by rw[h,Int.mul_comm]⟩)
    omega
   have dq:m / dv m z i=q:=by
    have:=Int.mul_ediv_cancel_left q (show dv m z i≠0 by omega)
    rwa[←hq]at this
   have dr:m / dv m b i=r:=by
    have:=Int.mul_ediv_cancel_left r (show dv m b i≠0 by omega)
    rwa[←hr']at this
   rw[dq,dr]
   obtain⟨p1,p2⟩:=pos _ _ d0 hq
   obtain⟨p3,p4⟩:=pos _ _ e0 hr'
   refine⟨p1,p2,p3,p4,?_⟩
   obtain⟨s,hs⟩:=hd
   refine⟨s,Int.eq_of_mul_eq_mul_left (show dv m z i≠0 by omega) ?_⟩
   rw[Int.mul_comm r s,←Int.mul_assoc,←hs]
   exact hq.symm.trans hr'
  have k:=Zl9 (by omega) (by omega) hab s1 s2
  rw[k]
  have ma:∀q∈Zbp m z (nB g n),1≤q∧q≤12:=fun q hn=>by
   obtain⟨i,i0,i1,rfl⟩:=Zij hn
   obtain⟨k,rfl⟩:=Int.eq_ofNat_of_zero_le i0
   have:=hab k (by omega)
   omega
  have mb:∀q∈Zbp m b (nB g n),1≤q∧q≤12:=fun q hn=>by
   obtain⟨i,i0,i1,rfl⟩:=Zij hn
   obtain⟨k,rfl⟩:=Int.eq_ofNat_of_zero_le i0
   have:=hab k (by omega)
   omega
  have e:prodN (pr5.map fun q=>q ^ (sv q (Zbp m z (nB g n)) - sv q (Zbp m b (nB g n))))=prI L:=by
   refine Nat.eq_of_mul_eq_mul_right (ct_pos' m2 m12 b2) ?_
   rw[l2.size m2 m12 b2.sub hBZ,←Ziy m2 m12 z2,←Ziy m2 m12 b2,ZhI _ ma,ZhI _ mb,ZcY]
   refine ZdH _ fun q hq => ?_
   have:=sv_le hq (Zbp m z (nB g n)) (Zbp m b (nB g n)) (by omega) hab
   rw[←Nat.pow_add]
   congr 1
   omega
  rw[e]
 ·
  have ll:L.length≤49:=by
   obtain⟨p,ns,a1,a2,a3,a4,a5,a6⟩:=l2.dia
   have:=nn_le p (nB g n)
   omega
  have loop:=up L.length (fun i=>ZY.l0 (wrapI ((prI (L.take i):Nat):Int)) (i:Int) L) (fun i hi=>by
   have app:∀(a b:List Nat),prodN (a++b)=prodN a*prodN b:=fun a b=>by
    induction a with
    | nil=>show _=1*_;rw[Nat.one_mul];rfl
    | cons x a ih=>show x*prodN (a++b)=x*prodN a*prodN b;rw[ih,Nat.mul_assoc]
   have ent:=l2.chn.ent _ (ZeT (i:=(i:Int)) (xs:=L) (by omega) (by omega))
   have e:((prI (L.take (i+1)):Nat):Int)=((prI (L.take i):Nat):Int)*rd L (i:Int):=by
    rw[List.take_add_one,List.getElem?_eq_getElem hi,←Za4 hi]
    show((prodN ((L.take i++[rd L (i:Int)]).map Int.toNat):Nat):Int)=_
    rw[List.map_append,app]
    show((prI (L.take i)*((rd L (i:Int)).toNat*1):Nat):Int)=_
    rw[Nat.mul_one,Int.natCast_mul,Int.toNat_of_nonneg (by omega)]
   rw[ZY.l0_eq,wn (j:=i) (by omega),ZiI,←e]
   ((with_reducible repeat (first|refine Zi (by first|assumption|omega|rfl|exact B_pos (by omega)) ?_|refine Zh (by first|assumption|omega|decide|exact B_not (by omega)) ?_|refine Zf (by first|assumption) ?_|dsimp only));first|done|(with_reducible rfl)|simp (disch:=omega) only[w64]|(show False;done)))
  have w1:wrapI ((prI (L.take 0):Nat):Int)=1:=w64 (by show(-9223372036854775808:Int)≤1;omega) (by show(1:Int) < 9223372036854775808;omega)
  rw[w1,List.take_length]at loop
  have loop:ZY.l0 1 0 L=_:=loop
  rw[loop,ZY.l0_eq]
  ((with_reducible repeat (first|refine Zi (by first|assumption|omega|rfl|exact B_pos (by omega)) ?_|refine Zh (by first|assumption|omega|decide|exact B_not (by omega)) ?_|refine Zf (by first|assumption) ?_|dsimp only));first|done|(with_reducible rfl)|simp (disch:=omega) only[w64]|(show False;done))
end Go.Proofs.Ytdamfbighdkcbaa.V
set_option maxHeartbeats 2000000
namespace Go.Proofs.Ytdamfbighdkcbaa.V
open Go.RowKit Go.Proofs.Ytdamfbighdkcbaa.D Go.Proofs.Ytdamfbighdkcbaa.P
theorem ZcC (g:List (List Int)) (m:Int) (u:List Int) (n:Int) (hl:g.length≤maxLen) (hr:∀r∈g,r.length≤maxLen) (hu:u.length≤maxLen) :
  ∃(R c:Int),ZG.f g m u n=some (R,c)∧ZF.f g m u n=some (R,c):=by
 rw[ZG.f_eq,ZF.f_eq]
 rcases rank hl hr m u hu n with ⟨k,rfl,k3,hg,hm,hb,cI,cS⟩|⟨c,c0,cI,cS⟩
 rotate_left
 ·
  exact⟨0,c,by((with_reducible repeat (first|refine Zi (by first|assumption|omega|rfl|exact B_pos (by omega)) ?_|refine Zh (by first|assumption|omega|decide|exact B_not (by omega)) ?_|refine Zf (by first|assumption) ?_|dsimp only));first|done|(with_reducible rfl)|simp (disch:=omega) only[w64]|(show False;done)),by((with_reducible repeat (first|refine Zi (by first|assumption|omega|rfl|exact B_pos (by omega)) ?_|refine Zh (by first|assumption|omega|decide|exact B_not (by omega)) ?_|refine Zf (by first|assumption) ?_|dsimp only));first|done|(with_reducible rfl)|simp (disch:=omega) only[w64]|(show False;done))⟩
 obtain⟨q,b,L,h1,h2,h3,_,h4,h5⟩:=Zmu hg hm k3 hb
 refine⟨wrapI ((prI L:Nat):Int),0,?_,?_⟩
 ·
  rw[cS,Option.bind_some,if_pos rfl,ZY.f_eq,h3,Option.bind_some,h5]
  rfl
 ·
  rw[cI,Option.bind_some,if_pos rfl,h1,Option.bind_some,h2,Option.bind_some]
  show(Zj.f m q m b).bind _=_
  rw[h4]
  rfl
end Go.Proofs.Ytdamfbighdkcbaa.V
set_option maxHeartbeats 4000000
namespace Go.Proofs.Ytdamfbighdkcbaa.Pure
open Go.RowKit Go.Proofs.Ytdamfbighdkcbaa.D Go.Proofs.Ytdamfbighdkcbaa.P Go.Proofs.Ytdamfbighdkcbaa.V
theorem FnExactOrderOfCohomology_pure:∀(g0:List (List Int)) (m1:Int) (u1:List Int) (a2:Int),g0.length≤maxLen→(∀r∈g0,r.length≤maxLen∧∀x∈r,(Lit.int .i64 x).wf=true)→(Lit.int .i64 m1).wf=true→u1.length≤maxLen→(∀x∈u1,(Lit.int .i64 x).wf=true)→(Lit.int .i64 a2).wf=true→Zm.f g0 m1 u1 a2=some true:=by
 intro g0 m1 u1 a2 hl0 hq0 hw1 hu1 hx1 hw2
 have hr0:∀r∈g0,r.length≤maxLen:=fun r h=>(hq0 r h).1
 rw[Zm.f_eq]
 obtain⟨t0,e0,z0⟩:=Zmb g0 1048576 hl0 hr0 (by omega) (by omega)
 rcases z0 with z0|⟨ta0,tb0,kl0,kr0⟩
 ·
  ((with_reducible repeat (first|refine Zi (by first|assumption|omega|rfl|exact B_pos (by omega)) ?_|refine Zh (by first|assumption|omega|decide|exact B_not (by omega)) ?_|refine Zf (by first|assumption) ?_|dsimp only));first|done|(with_reducible rfl)|simp (disch:=omega) only[w64]|(show False;done))
 obtain⟨t1,e1,z1⟩:=Zk9 m1 u1 t0 hu1 (by omega) (by omega)
 rcases z1 with z1|⟨ta1,tb1,ku1⟩
 ·
  ((with_reducible repeat (first|refine Zi (by first|assumption|omega|rfl|exact B_pos (by omega)) ?_|refine Zh (by first|assumption|omega|decide|exact B_not (by omega)) ?_|refine Zf (by first|assumption) ?_|dsimp only));first|done|(with_reducible rfl)|simp (disch:=omega) only[w64]|(show False;done))
 obtain⟨c0,c1,hS,hI⟩:=ZcC g0 m1 u1 a2 hl0 hr0 hu1
 have eT0:=Zmc g0 kl0 kr0
 have eS0:=Zja g0 hl0 hr0
 have eN0:=Zko kl0 kr0
 have eT1:=Zlb m1 u1 ku1
 have eS1:=ZhF m1 u1 hu1
 ((with_reducible repeat (first|refine Zi (by first|assumption|omega|rfl|exact B_pos (by omega)) ?_|refine Zh (by first|assumption|omega|decide|exact B_not (by omega)) ?_|refine Zf (by first|assumption) ?_|dsimp only));first|done|(with_reducible rfl)|simp (disch:=omega) only[w64]|(show False;done))
end Go.Proofs.Ytdamfbighdkcbaa.Pure
namespace Go.Proofs.Ytdamfbighdkcbaa.D
open Go Go.RowKit
theorem Zjb {P:Program} {g:FuncId} {c:Con} (hv:Valid P g c) {x:lsd (flats c.ins)} {r:c.R} (hx:c.f x=some r) {w:World} {vs:List Value} (ha:ASRs P (fun _=>False) (fun k=>k < w.heap.size) w c.ins x vs (fun _=>False)) :
  Calls P g vs.toArray w fun e w' => ∃u,e = .returned u∧Below w.heap.size w w' ∧ ∃Z' Fo us,u=outV us∧ASRs P (fun _=>False) Z' w' c.outs (c.dec r).1 us Fo:=by
 refine(hv.2 x r hx (fun k=>k < w.heap.size) (fun _=>False) (fun _=>False) w vs ha (fun _ h=>h.elim) (fun _ h=>h) (fun _ h=>h.elim)).mono ?_
 rintro e w' ⟨u,rfl,Z', Fi,Fo,hp⟩
 obtain⟨us,hu,ho⟩:=hp.out
 exact⟨u,rfl,⟨hp.os,hp.tape,hp.output,hp.size,fun k hk=>hp.old k hk fun h=>h⟩,Z', Fo,us,hu,ho⟩
theorem ZlH {w:World} {a:Addr} {v:Value} (h:w.cell? a=some v):a.block < w.heap.size:=by
 unfold World.cell? at h
 cases hb:w.heap[a.block]? with
 | none=>rw[hb]at h;cases h
 | some o=>exact(Array.getElem?_eq_some_iff.1 hb).1
theorem ZiH {α : Type} {w:World} {sz:Nat} {R : α → List Value→Prop} {A:Option Addr} {c:Nat} {xs:List α} (hz:0 < sz) (hc:xs.length≤c) (hm:xs.length≤9223372036854775807)
  (h:0 < xs.length→∃ad,A=some ad∧∀(j:Nat) (p : α),xs[j]? = some p→∃cs,cs.length=sz∧R p cs∧∀(i:Nat) (u:Value),cs[i]? = some u→w.cell? (ad.add (j*sz+i))=some u):Zcl (fun k=>k < w.heap.size) w sz R A c xs:=by
 refine⟨hc,hm,fun hl => ?_⟩
 obtain⟨ad,rfl,hcell⟩:=h hl
 refine⟨ad,rfl,?_,hcell⟩
 obtain⟨cs,h1,h2,h3⟩:=hcell 0 xs[0] (List.getElem?_eq_getElem hl)
 have:=ZlH (h3 0 cs[0] (List.getElem?_eq_getElem (by omega)))
 rwa[ZcE]at this
theorem ZkS {P:Program} {g:FuncId} {c:Con} (hv:Valid P g c) {x:lsd (flats c.ins)} {r:c.R} (hx:c.f x=some r) {w:World} {vs:List Value} (ha:ASRs P (fun _=>False) (fun k=>k < w.heap.size) w c.ins x vs (fun _=>False)) (ho:c.outs=[.one (.v .bool)]) (hr:∀y:lsd (flats [.one (.v .bool)]),HEq y (c.dec r).1→y.1=true) :
  Calls P g vs.toArray w fun e w' => e = .returned (.bool true)∧Below w.heap.size w w' := by
 refine(Zjb hv hx ha).mono ?_
 rintro e w' ⟨u,rfl,hb,Z', Fo,us,rfl,hh⟩
 refine⟨?_,hb⟩
 obtain⟨ins,outs,R,f,dec⟩:=c
 have ho:outs=[.one (.v .bool)]:=ho
 subst ho
 obtain⟨v,vs', F0,F1,rfl,h1,h2,_⟩:=hh
 cases h2
 have h1:[v]=[.bool (dec r).1.1]:=h1
 have hb1:(dec r).1.1=true:=hr _ HEq.rfl
 cases h1
 rw[hb1]
 rfl
end Go.Proofs.Ytdamfbighdkcbaa.D
