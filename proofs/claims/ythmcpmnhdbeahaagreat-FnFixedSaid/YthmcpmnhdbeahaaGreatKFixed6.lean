/- What the proof of the law Fixed stands on, part 6: words, each Go function's Lean function, and that the Go code comes to its answers; no condition. (Packed by wip/myprint/pack.py out of what the kit's printer wrote, its words among it, partly by our patches of it, and out of texts of this session.) -/
import Derived.Test.YthmcpmnhdbeahaaGreatProg
import Derived.Test.YthmcpmnhdbeahaaGreatChecked
import Derived.KernelRfl
import Derived.Test.YthmcpmnhdbeahaaGreatKFixed3
import Derived.Test.YthmcpmnhdbeahaaGreatKFixed4
import Derived.Test.YthmcpmnhdbeahaaGreatKFixed5
set_option linter.unusedVariables false
set_option linter.unusedSimpArgs false
set_option maxHeartbeats 2000000
set_option maxRecDepth 20000
namespace Go.Proofs.YthmcpmnhdbeahaaGreat.V
open Go.RowKit Go.Proofs.YthmcpmnhdbeahaaGreat.D Go.Proofs.YthmcpmnhdbeahaaGreat.P
def mix (m x:Int) (a:List Int) (y:Int) (b:List Int):List Int:=(List.range a.length).map fun(i:Nat)=>(x*rd a (i:Int)+y*rd b (i:Int))%m
theorem Zb0 (m x:Int) (a:List Int) (y:Int) (b:List Int):(mix m x a y b).length=a.length:=by simp[mix]
theorem Zek {m x:Int} {a:List Int} {y:Int} {b:List Int} {i:Nat} (h:i < a.length):rd (mix m x a y b) (i:Int)=(x*rd a (i:Int)+y*rd b (i:Int))%m:=by
 rw[rd_get (by rw[Zb0];exact h)]
 simp[mix]
theorem Zfm {m x:Int} {a:List Int} {y:Int} {b:List Int} (m0:0 < m):AllIn m (mix m x a y b):=by
 refine Zct fun z hz => ?_
 obtain⟨i,_,rfl⟩:=List.mem_map.1 hz
 exact⟨Int.emod_nonneg _ (by omega),Int.emod_lt_of_pos _ m0⟩
theorem Zd5 {m x:Int} {a:List Int} {y:Int} {b:List Int} {i:Nat} (h:i < a.length):m∣x*rd a (i:Int)+y*rd b (i:Int) - rd (mix m x a y b) (i:Int):=by
 rw[Zek h]
 exact Int.dvd_self_sub_emod
theorem ZiQ {x a B m:Int} (x0 : -B≤x) (x1:x≤B) (a0:0≤a) (a1:a < m) (m1:m≤12) (B0:0≤B) : -(12*B)≤x*a∧x*a≤12*B:=by
 have h1:x*a≤B*a:=Int.mul_le_mul_of_nonneg_right x1 a0
 have h2:(-B)*a≤x*a:=Int.mul_le_mul_of_nonneg_right x0 a0
 have h3:B*a≤B*12:=Int.mul_le_mul_of_nonneg_left (by omega) B0
 rw[Int.neg_mul]at h2
 constructor <;> omega
theorem Zj4 {xs ys:List Int} {j:Nat} (hl:ys.length=xs.length) (hj:j < xs.length) {z:Int} (hz:z=rd ys (j:Int)):(ys.take j++xs.drop j).set j z=ys.take (j+1)++xs.drop (j+1):=by
 subst hz
 rw[rd_get (by omega)]
 apply List.ext_getElem
 ·
  simp;omega
 ·
  intro i h1 h2
  rw[List.getElem_set]
  by_cases e:j=i
  ·
   subst e
   rw[if_pos rfl,List.getElem_append_left (by simp;omega)]
   simp
  ·
   rw[if_neg e]
   by_cases e2:i < j
   ·
    rw[List.getElem_append_left (by simp;omega),List.getElem_append_left (by simp;omega)]
    simp
   ·
    have:(List.take j ys).length=j:=by simp;omega
    have:(List.take (j+1) ys).length=j+1:=by simp;omega
    rw[List.getElem_append_right (by omega),List.getElem_append_right (by omega)]
    simp only[List.getElem_drop]
    congr 1
    omega
theorem combined {m:Int} (m2:2≤m) (m12:m≤12) {p:List (List Int)} {x y:Int} {a b:List Int} (ha:AllIn m a) (hb:AllIn m b) (hl:b.length=a.length) (hW:a.length≤1000000) (x0 : -100000000000000≤x) (x1:x≤100000000000000) (y0 : -100000000000000≤y) (y1:y≤100000000000000) :
  Zm.f m p x a y b=some (mix m x a y b):=by
 have hz:(List.replicate a.length (0:Int)).length=a.length:=List.length_replicate
 have hml:=Zb0 m x a y b
 have loop:=up a.length (fun j=>Zm.l0 x y b a (a.length:Int) (j:Int) m p ((mix m x a y b).take j++(List.replicate a.length (0:Int)).drop j)) (fun j hj=>by
  obtain⟨a0,a1⟩:=ha j (by omega) (by omega)
  obtain⟨b0,b1⟩:=hb j (by omega) (by omega)
  have p1:=ZiQ x0 x1 a0 a1 m12 (by omega)
  have p2:=ZiQ y0 y1 b0 b1 m12 (by omega)
  have t0:=Int.tmod_lt_of_pos (x*rd a (j:Int)+y*rd b (j:Int)) (show 0 < m by omega)
  have t1 : -m < Int.tmod (x*rd a (j:Int)+y*rd b (j:Int)) m:=Int.lt_tmod_of_pos _ (by omega)
  have hq:=Int.mul_tdiv_add_tmod (x*rd a (j:Int)+y*rd b (j:Int)) m
  have h5:(m*(x*rd a (j:Int)+y*rd b (j:Int)).tdiv m+(x*rd a (j:Int)+y*rd b (j:Int)).tmod m)%m=(x*rd a (j:Int)+y*rd b (j:Int)).tmod m%m:=by rw[Int.add_comm,Int.add_mul_emod_self_left]
  rw[hq]at h5
  have hv:(wrapI ((wrapI (wrapI (x*rd a (j:Int))+wrapI (y*rd b (j:Int)))).tmod m+m)).tmod m=rd (mix m x a y b) (j:Int):=by
   rw[w64 (x:=x*rd a (j:Int)) (by omega) (by omega),w64 (x:=y*rd b (j:Int)) (by omega) (by omega),w64 (x:=x*rd a (j:Int)+y*rd b (j:Int)) (by omega) (by omega),w64 (by omega) (by omega),Zek hj,Int.tmod_eq_emod_of_nonneg (by omega),Int.add_emod_right,←h5]
  have hs:=Zj4 (xs:=List.replicate a.length (0:Int)) (ys:=mix m x a y b) (by omega) (by omega) (j:=j) hv
  have hll:(((mix m x a y b).take j++(List.replicate a.length (0:Int)).drop j).length:Int)=a.length:=by simp;omega
  rw[Zm.l0_eq,wn (j:=j) (by omega),Int.toNat_natCast,hs,hll]
  ((with_reducible repeat (first|refine ZP (by first|assumption|omega|rfl|exact B_pos (by omega)) ?_|refine ZO (by first|assumption|omega|decide|exact B_not (by omega)) ?_|refine Zq (by first|assumption) ?_|dsimp only));first|done|(with_reducible rfl)|simp (disch:=omega) only[w64]|(show False;done)))
 rw[Zm.f_eq,Int.toNat_natCast]
 rw[List.take_zero,List.nil_append,List.drop_zero,Int.natCast_zero]at loop
 rw[loop,Zm.l0_eq,show(mix m x a y b).take a.length=mix m x a y b from List.take_of_length_le (by omega),List.drop_of_length_le (by simp),List.append_nil]
 ((with_reducible repeat (first|refine ZP (by first|assumption|omega|rfl|exact B_pos (by omega)) ?_|refine ZO (by first|assumption|omega|decide|exact B_not (by omega)) ?_|refine Zq (by first|assumption) ?_|dsimp only));first|done|(with_reducible rfl)|simp (disch:=omega) only[w64]|(show False;done))
end Go.Proofs.YthmcpmnhdbeahaaGreat.V
namespace Go.Proofs.YthmcpmnhdbeahaaGreat.V
open Go.RowKit Go.Proofs.YthmcpmnhdbeahaaGreat.D Go.Proofs.YthmcpmnhdbeahaaGreat.P
theorem bez (a b:Nat):∃s t:Int,s*a+t*b=((Nat.gcd a b:Nat):Int):=by
 induction a,b using Nat.gcd.induction with
 | H0 n=>exact⟨0,1,by simp⟩
 | H1 a b ha ih =>
  obtain⟨s,t,h⟩:=ih
  refine⟨t - s*((b / a:Nat):Int),s,?_⟩
  rw[Nat.gcd_rec a b,←h]
  have h1:(b:Int)=(a:Int)*((b / a:Nat):Int)+((b%a:Nat):Int):=by exact_mod_cast (Nat.div_add_mod b a).symm
  rw[Int.sub_mul,Int.mul_assoc,Int.mul_comm ((b / a:Nat):Int) (a:Int)]
  have h2:s*(b:Int)=s*((a:Int)*((b / a:Nat):Int))+s*((b%a:Nat):Int):=by rw[←Int.mul_add,←h1]
  omega
theorem Zkz {m a b:Int} (m0:0 < m) (a0:0≤a) (b0:0≤b):∃x y:Int,(0≤x∧x < m)∧(0≤y∧y < m)∧m∣x*a+y*b - ((Int.gcd ((Int.gcd a b:Nat):Int) m:Nat):Int):=by
 obtain⟨A,rfl⟩:=Int.eq_ofNat_of_zero_le a0
 obtain⟨C,rfl⟩:=Int.eq_ofNat_of_zero_le b0
 obtain⟨M,rfl⟩:=Int.eq_ofNat_of_zero_le (Int.le_of_lt m0)
 obtain⟨s,t,h1⟩:=bez A C
 obtain⟨s', t', h2⟩:=bez (Nat.gcd A C) M
 refine⟨(s' * s)%M,(s' * t)%M,⟨Int.emod_nonneg _ (by omega),Int.emod_lt_of_pos _ m0⟩,⟨Int.emod_nonneg _ (by omega),Int.emod_lt_of_pos _ m0⟩,?_⟩
 show(M:Int)∣(s' * s)%M*A+(s' * t)%M*C - ((Nat.gcd (Nat.gcd A C) M:Nat):Int)
 have e1:(s' * s)%(M:Int)=s' * s - M*(s' * s / M):=by have:=Int.mul_ediv_add_emod (s' * s) M;omega
 have e2:(s' * t)%(M:Int)=s' * t - M*(s' * t / M):=by have:=Int.mul_ediv_add_emod (s' * t) M;omega
 rw[e1,e2]
 refine⟨-(s' * s / M*A) - (s' * t / M*C) - t', ?_⟩
 have h3:s' * (s*(A:Int)+t*(C:Int))=s' * ((Nat.gcd A C:Nat):Int):=by rw[h1]
 rw[Int.mul_add,←Int.mul_assoc,←Int.mul_assoc]at h3
 rw[Int.sub_mul,Int.sub_mul,Int.mul_sub,Int.mul_sub,Int.mul_neg,Int.mul_assoc (M:Int),Int.mul_assoc (M:Int),Int.mul_comm (M:Int) t']
 omega
theorem ZdW {a m:Int}:Int.tmod a m=0↔m∣a:=⟨Int.dvd_of_tmod_eq_zero,Int.tmod_eq_zero_of_dvd⟩
theorem bezout {m:Int} (m2:2≤m) (m12:m≤12) {p:List (List Int)} {a b:Int} (a0:0≤a) (a1:a≤12) (b0:0≤b) (b1:b≤12) :
  ∃x y:Int,Zk.f m p a b=some (x,y,((Int.gcd ((Int.gcd a b:Nat):Int) m:Nat):Int))∧(0≤x∧x < m)∧(0≤y∧y < m)∧m∣x*a+y*b - ((Int.gcd ((Int.gcd a b:Nat):Int) m:Nat):Int):=by
 have hg1:=gcd_ a0 b0
 have hg2:=gcd_ (a:=((Int.gcd a b:Nat):Int)) (b:=m) (by omega) (by omega)
 have hd:0≤((Int.gcd ((Int.gcd a b:Nat):Int) m:Nat):Int)∧((Int.gcd ((Int.gcd a b:Nat):Int) m:Nat):Int)≤m:=by
  constructor
  ·
   omega
  ·
   exact Int.le_of_dvd (by omega) (Int.gcd_dvd_right ..)
 obtain⟨x0,y0,hx0,hy0,h0⟩:=Zkz (m:=m) (by omega) a0 b0
 rw[Zk.f_eq,hg1,Option.bind_some,hg2,Option.bind_some]
 generalize ((Int.gcd ((Int.gcd a b:Nat):Int) m:Nat):Int)=d at hd h0 ⊢
 have inner:∀(n:Nat) (x y:Int),0≤x→x < m→0≤y→y+n=m→(∃y', (0≤y' ∧ y' < m)∧m∣x*a+y' * b - d∧Zk.l1 a b d x m x m y m p=some (x,y', d))∨((∀y', y≤y' → y' < m→¬ m∣x*a+y' * b - d)∧Zk.l1 a b d x m x m y m p=Zk.l0 a b d m (x+1) m p):=by
  intro n
  induction n with
  | zero =>
   intro x y hx hx' hy hn
   refine .inr ⟨fun y' h1 h2=>by omega,?_⟩
   rw[Zk.l1_eq,w64 (x:=x+1) (by omega) (by omega)]
   ((with_reducible repeat (first|refine ZP (by first|assumption|omega|rfl|exact B_pos (by omega)) ?_|refine ZO (by first|assumption|omega|decide|exact B_not (by omega)) ?_|refine Zq (by first|assumption) ?_|dsimp only));first|done|(with_reducible rfl)|simp (disch:=omega) only[w64]|(show False;done))
  | succ n ih =>
   intro x y hx hx' hy hn
   have p1:=ZiQ (x:=x) (a:=a) (B:=12) (m:=13) (by omega) (by omega) a0 (by omega)
   have q1:0≤x*a:=Int.mul_nonneg hx a0
   have q2:x*a≤12*12:=Int.mul_le_mul (by omega) a1 a0 (by omega)
   have q3:0≤y*b:=Int.mul_nonneg hy b0
   have q4:y*b≤12*12:=Int.mul_le_mul (by omega) b1 b0 (by omega)
   have hv:wrapI (wrapI (wrapI (x*a)+wrapI (y*b)) - d)=x*a+y*b - d:=by
    rw[w64 (x:=x*a) (by omega) (by omega),w64 (x:=y*b) (by omega) (by omega),w64 (x:=x*a+y*b) (by omega) (by omega),w64 (by omega) (by omega)]
   by_cases h:m∣x*a+y*b - d
   ·
    refine .inl ⟨y,⟨hy,by omega⟩,h,?_⟩
    have ht:=ZdW.2 h
    rw[Zk.l1_eq,hv]
    ((with_reducible repeat (first|refine ZP (by first|assumption|omega|rfl|exact B_pos (by omega)) ?_|refine ZO (by first|assumption|omega|decide|exact B_not (by omega)) ?_|refine Zq (by first|assumption) ?_|dsimp only));first|done|(with_reducible rfl)|simp (disch:=omega) only[w64]|(show False;done))
   ·
    have ht:¬ Int.tmod (x*a+y*b - d) m=0:=fun k=>h (ZdW.1 k)
    have hl:Zk.l1 a b d x m x m y m p=Zk.l1 a b d x m x m (y+1) m p:=by
     rw[Zk.l1_eq,hv,w64 (x:=y+1) (by omega) (by omega)]
     ((with_reducible repeat (first|refine ZP (by first|assumption|omega|rfl|exact B_pos (by omega)) ?_|refine ZO (by first|assumption|omega|decide|exact B_not (by omega)) ?_|refine Zq (by first|assumption) ?_|dsimp only));first|done|(with_reducible rfl)|simp (disch:=omega) only[w64]|(show False;done))
    rcases ih x (y+1) hx hx' (by omega) (by omega)with ⟨y', h1,h2,h3⟩|⟨h1,h2⟩
    ·
     exact .inl ⟨y', h1,h2,hl.trans h3⟩
    ·
     refine .inr ⟨fun y' k1 k2 => ?_,hl.trans h2⟩
     by_cases e:y' = y
     ·
      rw[e];exact h
     ·
      exact h1 y' (by omega) k2
 have outer:∀(n:Nat) (x:Int),0≤x→x+n=m→x≤x0→∃x' y', Zk.l0 a b d m x m p=some (x', y', d)∧(0≤x' ∧ x' < m)∧(0≤y' ∧ y' < m)∧m∣x' * a+y' * b - d:=by
  intro n
  induction n with
  | zero=>intro x hx hn hx0';omega
  | succ n ih =>
   intro x hx hn hx0'
   have hl:Zk.l0 a b d m x m p=Zk.l1 a b d x m x m 0 m p:=by
    rw[Zk.l0_eq]
    ((with_reducible repeat (first|refine ZP (by first|assumption|omega|rfl|exact B_pos (by omega)) ?_|refine ZO (by first|assumption|omega|decide|exact B_not (by omega)) ?_|refine Zq (by first|assumption) ?_|dsimp only));first|done|(with_reducible rfl)|simp (disch:=omega) only[w64]|(show False;done))
   rw[hl]
   rcases inner m.toNat x 0 hx (by omega) (by omega) (by omega)with ⟨y', h1,h2,h3⟩|⟨h1,h2⟩
   ·
    exact⟨x,y', h3,⟨hx,by omega⟩,h1,h2⟩
   ·
    rw[h2]
    refine ih (x+1) (by omega) (by omega) ?_
    by_cases e:x=x0
    ·
     exact absurd (e ▸ h0) (h1 y0 hy0.1 hy0.2)
    ·
     omega
 exact outer m.toNat 0 (by omega) (by omega) hx0.1
end Go.Proofs.YthmcpmnhdbeahaaGreat.V
namespace Go.Proofs.YthmcpmnhdbeahaaGreat.V
open Go.RowKit Go.Proofs.YthmcpmnhdbeahaaGreat.D
theorem Zdd {p:List (List Int)} {j:Nat} {n:List Int} (h:j < p.length):row (p.set j n) (j:Int)=n:=by
 rw[Ze2 (by rw[List.length_set];exact h)]
 simp
theorem Zci {p:List (List Int)} {i j:Nat} {n:List Int} (h:i≠j):row (p.set j n) (i:Int)=row p (i:Int):=by
 simp only[row,Int.toNat_natCast,List.getD_eq_getElem?_getD,List.getElem?_set,if_neg (show ¬ j=i from fun e=>h e.symm)]
def Zb (k:Nat) (s:List Int):Prop:=∀i:Nat,i < k→rd s (i:Int)=0
section
variable {m:Int} {W:Nat} {p p' st st' : List (List Int)} {M:Vc→Prop}
theorem PTab.set (h:PTab m W p) {j:Nat} {n:List Int} (hj:j < W) (hn:PRow m W j n):PTab m W (p.set j n) where
 len:=by rw[List.length_set];exact h.len
 rws:=fun i hi=>by
  by_cases e:i=j
  ·
   subst e;rw[Zdd (by rw[h.len];exact hj)];exact .inr hn
  ·
   rw[Zci e];exact h.rws i hi
theorem PRow.ne {j:Nat} {n:List Int} (h:PRow m W j n):n≠[]:=fun e=>by
 have:=h.pos
 rw[e]at this
 simp[rd]at this
def dsum (m:Int) (p:List (List Int)):Nat→Int
 | 0=>0
 | k+1=>dsum m p k+dv m p k
theorem ZgS (hl:p.length=W) {j:Nat} {n:List Int} (hj:j < W) (hn:n≠[]):dv m (p.set j n) j=rd n (j:Int):=by
 unfold dv;rw[Zdd (by omega),if_neg hn]
theorem ZiB {i j:Nat} {n:List Int} (h:i≠j):dv m (p.set j n) i=dv m p i:=by
 unfold dv;rw[Zci h]
theorem ZjF (hl:p.length=W) {j:Nat} {n:List Int} (hj:j < W):∀k,dsum m (p.set j n) k=dsum m p k+if j < k then dv m (p.set j n) j - dv m p j else 0:=by
 intro k
 induction k with
 | zero=>simp[dsum]
 | succ k ih =>
  rw[dsum,dsum,ih]
  by_cases e:j=k
  ·
   subst e
   rw[if_neg (Nat.lt_irrefl j),if_pos (Nat.lt_succ_self j)];omega
  ·
   rw[ZiB (fun q=>e q.symm)]
   by_cases h:j < k
   ·
    rw[if_pos h,if_pos (by omega)];omega
   ·
    rw[if_neg h,if_neg (by omega)];omega
theorem ZfG (m0:0 < m) (ht:PTab m W p):∀k,k≤W→0≤dsum m p k∧dsum m p k≤m*k:=by
 intro k
 induction k with
 | zero=>intro _;simp[dsum]
 | succ k ih =>
  intro hk
  obtain⟨a,b⟩:=ih (by omega)
  obtain⟨c,d,_⟩:=dv_bd m0 ht (show k < W by omega)
  rw[dsum,show m*((k+1:Nat):Int)=m*(k:Int)+m by rw[Int.natCast_add,Int.mul_add];simp]
  omega
structure Pst (m:Int) (W:Nat) (p st:List (List Int)) (M:Vc→Prop):Prop where
 inv:Inv m W p st
 spn:∀x,Sp m W (GT W p st 0) x↔M x
theorem Pst.step (h:Pst m W p st M) (ht:PTab m W p') (hs:∀s∈st', s.length=W∧AllIn m s)
  (ha:∀k g,GT W p st k g→Sp m W (GT W p' st' k) g) (hb:∀g,GT W p' st' 0 g→Sp m W (GT W p st 0) g)
  (hn:∀j:Nat,j < W→row p' (j:Int)≠[]→row p' (j:Int)≠row p (j:Int)→Sp m W (GT W p' st' (j+1)) (fun i=>m / rd (row p' (j:Int)) (j:Int)*rd (row p' (j:Int)) (i:Int))):Pst m W p' st' M where
 inv:=⟨ht,hs,fun j hj hr=>by
  by_cases e:row p' (j:Int)=row p (j:Int)
  ·
   have:=h.inv.how j hj (by rw[←e];exact hr)
   rw[e]
   exact this.mono (ha (j+1))
  ·
   exact hn j hj hr e⟩
 spn:=fun x=>by
  rw[←h.spn x]
  exact⟨fun hx=>hx.mono hb,fun hx=>hx.mono (ha 0)⟩
theorem GT.zb {k:Nat} {s:List Int} (hs:s∈st) (hz:Zb k s):GT W p st k (V s) := .inr ⟨s,hs,hz,rfl⟩
theorem Pst.drop {v:List Int} (h:Pst m W p (st++[v]) M) (hz:Zb W v):Pst m W p st M:=by
 refine h.step h.inv.tab (fun s hs=>h.inv.sts s (List.mem_append_left _ hs)) (fun k g hg => ?_) (fun g hg => .gen ?_) (fun j _ _ e=>absurd rfl e)
 ·
  rcases hg with hg|⟨s,hs,hk,rfl⟩
  ·
   exact .gen (.inl hg)
  ·
   rcases List.mem_append.1 hs with hs|hs
   ·
    exact .gen (.inr ⟨s,hs,hk,rfl⟩)
   ·
    rw[List.mem_singleton]at hs
    subst hs
    exact .alike .nil fun i hi=>by rw[show V s i=0 from hz i hi];exact⟨0,by omega⟩
 ·
  rcases hg with hg|⟨s,hs,hk,rfl⟩
  ·
   exact .inl hg
  ·
   exact .inr ⟨s,List.mem_append_left _ hs,hk,rfl⟩
theorem Pst.less {v w:List Int} {c:Int} (h:Pst m W p (st++[v]) M) {j:Nat} (hj:j < W) (hr:row p (j:Int)≠[]) (hvj:rd v (j:Int)≠0) (hw:w.length=W∧AllIn m w) (hz:Zb j w)
  (he:∀i:Nat,i < W→m∣1*rd v (i:Int)+(-c)*rd (row p (j:Int)) (i:Int) - rd w (i:Int)):Pst m W p (st++[w]) M:=by
 refine h.step h.inv.tab (fun s hs => ?_) (fun k g hg => ?_) (fun g hg => ?_) (fun j _ _ e=>absurd rfl e)
 ·
  rcases List.mem_append.1 hs with hs|hs
  ·
   exact h.inv.sts s (List.mem_append_left _ hs)
  ·
   rw[List.mem_singleton]at hs;subst hs;exact hw
 ·
  rcases hg with hg|⟨s,hs,hk,rfl⟩
  ·
   exact .gen (.inl hg)
  ·
   rcases List.mem_append.1 hs with hs|hs
   ·
    exact .gen (.inr ⟨s,List.mem_append_left _ hs,hk,rfl⟩)
   ·
    rw[List.mem_singleton]at hs
    subst hs
    have hkj:k≤j:=by
     by_cases q:k≤j
     ·
      exact q
     ·
      exact absurd (hk j (by omega)) hvj
    refine Sp.two (a:=1) (b:=c) (x:=V w) (y:=V (row p (j:Int))) (.gen (GT.zb (List.mem_append_right _ (List.mem_singleton.2 rfl)) fun i hi=>hz i (by omega))) (.gen (.inl ⟨j,hkj,hj,hr,rfl⟩)) fun i hi => ?_
    obtain⟨q,hq⟩:=he i hi
    refine⟨-q,?_⟩
    rw[Int.mul_neg,←hq,Int.neg_mul]
    show 1*rd w (i:Int)+c*rd (row p (j:Int)) (i:Int) - rd s (i:Int)=_
    omega
 ·
  rcases hg with hg|⟨s,hs,hk,rfl⟩
  ·
   exact .gen (.inl hg)
  ·
   rcases List.mem_append.1 hs with hs|hs
   ·
    exact .gen (.inr ⟨s,List.mem_append_left _ hs,hk,rfl⟩)
   ·
    rw[List.mem_singleton]at hs
    subst hs
    exact Sp.two (a:=1) (b := -c) (x:=V v) (y:=V (row p (j:Int))) (.gen (GT.zb (List.mem_append_right _ (List.mem_singleton.2 rfl)) fun i hi=>by omega)) (.gen (.inl ⟨j,Nat.zero_le _,hj,hr,rfl⟩)) fun i hi=>he i hi
theorem Pst.swap {v n:List Int} {ws:List (List Int)} (h:Pst m W p (st++[v]) M) {j:Nat} (hj:j < W) (hvj:rd v (j:Int)≠0) (hn:PRow m W j n) (hws:∀w∈ws,(w.length=W∧AllIn m w)∧Zb (j+1) w)
  (ho:row p (j:Int)≠[]→Sp m W (fun g=>g=V n∨∃w∈ws,g=V w) (V (row p (j:Int))))
  (hv:Sp m W (fun g=>g=V n∨∃w∈ws,g=V w) (V v))
  (hd:Sp m W (fun g=>∃w∈ws,g=V w) (fun i=>m / rd n (j:Int)*rd n (i:Int)))
  (hb:∀g,(g=V n∨∃w∈ws,g=V w)→Sp m W (fun g=>g=V v∨(row p (j:Int)≠[]∧g=V (row p (j:Int)))) g):Pst m W (p.set j n) (st++ws) M:=by
 have hpl:j < p.length:=by rw[h.inv.tab.len];exact hj
 have hsame:row (p.set j n) (j:Int)=n:=Zdd hpl
 have new:∀k,k≤j→∀g,(g=V n∨∃w∈ws,g=V w)→Sp m W (GT W (p.set j n) (st++ws) k) g:=fun k hk g hg=>by
  rcases hg with rfl|⟨w,hw,rfl⟩
  ·
   exact .gen (.inl ⟨j,hk,hj,by rw[hsame];exact hn.ne,by rw[hsame]⟩)
  ·
   exact .gen (GT.zb (List.mem_append_right _ hw) fun i hi=>(hws w hw).2 i (by omega))
 have old:∀g,(g=V v∨(row p (j:Int)≠[]∧g=V (row p (j:Int))))→Sp m W (GT W p (st++[v]) 0) g:=fun g hg=>by
  rcases hg with rfl|⟨hr,rfl⟩
  ·
   exact .gen (GT.zb (List.mem_append_right _ (List.mem_singleton.2 rfl)) fun i hi=>by omega)
  ·
   exact .gen (.inl ⟨j,Nat.zero_le _,hj,hr,rfl⟩)
 refine h.step (h.inv.tab.set hj hn) (fun s hs => ?_) (fun k g hg => ?_) (fun g hg => ?_) (fun i hi hr e => ?_)
 ·
  rcases List.mem_append.1 hs with hs|hs
  ·
   exact h.inv.sts s (List.mem_append_left _ hs)
  ·
   exact(hws s hs).1
 ·
  rcases hg with ⟨i,hk,hi,hr,rfl⟩|⟨s,hs,hk,rfl⟩
  ·
   by_cases e:i=j
   ·
    subst e
    exact(ho hr).mono (new k hk)
   ·
    exact .gen (.inl ⟨i,hk,hi,by rw[Zci e];exact hr,by rw[Zci e]⟩)
  ·
   rcases List.mem_append.1 hs with hs|hs
   ·
    exact .gen (.inr ⟨s,List.mem_append_left _ hs,hk,rfl⟩)
   ·
    rw[List.mem_singleton]at hs
    subst hs
    have hkj:k≤j:=by
     by_cases q:k≤j
     ·
      exact q
     ·
      exact absurd (hk j (by omega)) hvj
    exact hv.mono (new k hkj)
 ·
  rcases hg with ⟨i,hk,hi,hr,rfl⟩|⟨s,hs,hk,rfl⟩
  ·
   by_cases e:i=j
   ·
    subst e
    rw[hsame]
    exact(hb _ (.inl rfl)).mono old
   ·
    rw[Zci e]at hr ⊢
    exact .gen (.inl ⟨i,hk,hi,hr,rfl⟩)
  ·
   rcases List.mem_append.1 hs with hs|hs
   ·
    exact .gen (.inr ⟨s,List.mem_append_left _ hs,hk,rfl⟩)
   ·
    exact(hb _ (.inr ⟨s,hs,rfl⟩)).mono old
 ·
  by_cases q:i=j
  ·
   subst q
   rw[hsame]
   exact hd.mono fun g hg=>by
    obtain⟨w,hw,rfl⟩:=hg
    exact .gen (GT.zb (List.mem_append_right _ hw) (hws w hw).2)
  ·
   exact absurd (Zci q) e
end
end Go.Proofs.YthmcpmnhdbeahaaGreat.V
set_option maxHeartbeats 4000000
namespace Go.Proofs.YthmcpmnhdbeahaaGreat.V
open Go.RowKit Go.Proofs.YthmcpmnhdbeahaaGreat.D Go.Proofs.YthmcpmnhdbeahaaGreat.P
theorem indexFunc (v:List Int) (hl:v.length≤1000000):(Zb v.length v∧Za.f v (fun z0=>(Zaz.f z0).map fun z=>z)=some (-1)) ∨
  ∃j:Nat,j < v.length∧Zb j v∧¬ rd v (j:Int)=0∧Za.f v (fun z0=>(Zaz.f z0).map fun z=>z)=some (j:Int):=by
 rw[Za.f_eq]
 obtain⟨F,hF⟩:∃F:Int→Option Bool,F=fun z0=>(Zaz.f z0).map fun z=>z:=⟨_,rfl⟩
 rw[←hF]
 have hf:∀x,F x=some (!decide (x=0)):=fun x=>by rw[hF];show Option.map _ (Zaz.f x)=_;rw[Zaz.f_eq];rfl
 suffices H:∀d k:Nat,k+d=v.length→Zb k v→(Zb v.length v∧Za.l0 v F (v.length:Int) (k:Int)=some (-1)) ∨
   ∃j:Nat,j < v.length∧Zb j v∧¬ rd v (j:Int)=0∧Za.l0 v F (v.length:Int) (k:Int)=some (j:Int)from
  H v.length 0 (by omega) (fun i hi=>by omega)
 intro d
 induction d with
 | zero =>
  intro k hd hz
  obtain rfl:k=v.length:=by omega
  refine .inl ⟨hz,?_⟩
  (rw[Za.l0_eq])
  ((with_reducible repeat (first|refine ZP (by first|assumption|omega|rfl|exact B_pos (by omega)) ?_|refine ZO (by first|assumption|omega|decide|exact B_not (by omega)) ?_|refine Zq (by first|assumption) ?_|dsimp only));first|done|(with_reducible rfl)|simp (disch:=omega) only[w64]|(show False;done))
 | succ d ih =>
  intro k hd hz
  have hfk:=hf (rd v (k:Int))
  by_cases h:rd v (k:Int)=0
  ·
   have st:Za.l0 v F (v.length:Int) (k:Int)=Za.l0 v F (v.length:Int) ((k+1:Nat):Int):=by
    rw[h]at hfk
    rw[Za.l0_eq,wn (j:=k) (by omega),h]
    (with_reducible repeat (first|refine ZP (by first|assumption|omega|rfl|exact B_pos (by omega)) ?_|refine ZO (by first|assumption|omega|decide|exact B_not (by omega)) ?_|refine Zq (by first|assumption) ?_|dsimp only))
   rw[st]
   refine ih (k+1) (by omega) fun i hi => ?_
   by_cases e:i=k
   ·
    rw[e];exact h
   ·
    exact hz i (by omega)
  ·
   refine .inr ⟨k,by omega,hz,h,?_⟩
   rw[Za.l0_eq]
   (with_reducible repeat (first|refine ZP (by first|assumption|omega|rfl|exact B_pos (by omega)) ?_|refine ZO (by first|assumption|omega|decide|exact B_not (by omega)) ?_|refine Zq (by first|assumption) ?_|dsimp only))
   rw[decide_eq_false h]
   rfl
theorem Zcx (n:Nat) (i:Int):rd (List.replicate n (0:Int)) i=0:=by
 simp only[rd,List.getD_eq_getElem?_getD,List.getElem?_replicate]
 split <;> rfl
theorem Zkd {m:Int} (m0:0 < m) (n:Nat):AllIn m (List.replicate n (0:Int)):=fun i _ _=>by rw[Zcx];omega
theorem Zhy {m a b c e:Int} (h:m∣1*a+(-e)*b - c):m∣1*c+e*b - a:=by
 obtain⟨q,hq⟩:=h
 refine⟨-q,?_⟩
 rw[Int.mul_neg,←hq,Int.neg_mul]
 omega
theorem Zf7 {d e:Int} (d0:0 < d):Int.tdiv (0 - d*e) d = -e:=by
 rw[show 0 - d*e=d*(-e)by rw[Int.mul_neg];omega]
 exact Int.mul_tdiv_cancel_left _ (by omega)
theorem ZfK (st:List (List Int)) (v:List Int):row (st++[v]) (st.length:Int)=v:=by simp[row,List.getD_eq_getElem?_getD]
theorem Ze6 (st:List (List Int)) (v:List Int):(st++[v]).take st.length=st:=by simp
theorem ZfW {d e x:Int} (d0:0 < d) (h:x=d*e) (x0:0≤x) (x1:x≤12):0≤e∧e≤12:=by
 constructor
 ·
  by_cases q:0≤e
  ·
   exact q
  ·
   have:=Int.mul_le_mul_of_nonneg_left (show e ≤ -1 by omega) (Int.le_of_lt d0)
   omega
 ·
  by_cases q:e≤12
  ·
   exact q
  ·
   have h1:=Int.mul_le_mul_of_nonneg_right (show 1≤d by omega) (show 0≤e by omega)
   omega
theorem put_top {m:Int} (m2:2≤m) (m12:m≤12) {W:Nat} (hW:W≤100000) {M:Vc→Prop}:∀(n j:Nat) (v:List Int) (p st:List (List Int)),W≤j+n→Zb j v→Pst m W p (st++[v]) M→st.length≤1000000000 →
  (Zp.l0 m p (st++[v])=Zp.l0 m p st∧Pst m W p st M) ∨
  ∃p' ws,Zp.l0 m p (st++[v])=Zp.l0 m p' (st++ws)∧ws.length=3∧Pst m W p' (st++ws) M∧dsum m p' W < dsum m p W:=by
 intro n
 induction n with
 | zero =>
  intro j v p st hj hz h hst
  obtain⟨hvl,hva⟩:=h.inv.sts v (List.mem_append_right _ (List.mem_singleton.2 rfl))
  have e0:(st++[v]).length=st.length+1:=by simp
  have e1:wrapI (((st++[v]).length:Int) - 1)=(st.length:Int):=by rw[w64 (by omega) (by omega)];omega
  rcases indexFunc v (by omega)with ⟨hzz,hI⟩|⟨i,hi,hzi,hne,hI⟩
  ·
   rw[hvl]at hzz
   refine .inl ⟨?_,h.drop hzz⟩
   rw[Zp.l0_eq,e1,ZfK,Int.toNat_natCast,Ze6]
   ((with_reducible repeat (first|refine ZP (by first|assumption|omega|rfl|exact B_pos (by omega)) ?_|refine ZO (by first|assumption|omega|decide|exact B_not (by omega)) ?_|refine Zq (by first|assumption) ?_|dsimp only));first|done|(with_reducible rfl)|simp (disch:=omega) only[w64]|(show False;done))
  ·
   exact absurd (hz i (by omega)) hne
 | succ n ih =>
  intro j v p st hj hz h hst
  obtain⟨hvl,hva⟩:=h.inv.sts v (List.mem_append_right _ (List.mem_singleton.2 rfl))
  have e0:(st++[v]).length=st.length+1:=by simp
  have e1:wrapI (((st++[v]).length:Int) - 1)=(st.length:Int):=by rw[w64 (by omega) (by omega)];omega
  rcases indexFunc v (by omega)with ⟨hzz,hI⟩|⟨i,hi,hzi,hne,hI⟩
  ·
   rw[hvl]at hzz
   refine .inl ⟨?_,h.drop hzz⟩
   rw[Zp.l0_eq,e1,ZfK,Int.toNat_natCast,Ze6]
   ((with_reducible repeat (first|refine ZP (by first|assumption|omega|rfl|exact B_pos (by omega)) ?_|refine ZO (by first|assumption|omega|decide|exact B_not (by omega)) ?_|refine Zq (by first|assumption) ?_|dsimp only));first|done|(with_reducible rfl)|simp (disch:=omega) only[w64]|(show False;done))
  have hij:j≤i:=by
   by_cases q:j≤i
   ·
    exact q
   ·
    exact absurd (hz i (by omega)) hne
  have hpl:=h.inv.tab.len
  have hiW:i < W:=by omega
  obtain⟨v0,v1⟩:=hva i (by omega) (by omega)
  have swap:∀o:List Int,(row p (i:Int)=[]∧o=List.replicate v.length 0∨row p (i:Int)≠[]∧o=row p (i:Int))→(¬ rd o (i:Int)=0→¬ Int.tmod (rd v (i:Int)) (rd o (i:Int))=0) →
    ∃p' ws,Zp.j1 v i o m p st=Zp.l0 m p' (st++ws)∧ws.length=3∧Pst m W p' (st++ws) M∧dsum m p' W < dsum m p W:=by
   intro o ho hnd
   have ol:o.length=W:=by
    rcases ho with ⟨_,rfl⟩|⟨hr,rfl⟩
    ·
     rw[List.length_replicate];exact hvl
    ·
     exact(h.inv.tab.prow hiW hr).len
   have oa:AllIn m o:=by
    rcases ho with ⟨_,rfl⟩|⟨hr,rfl⟩
    ·
     exact Zkd (by omega) _
    ·
     exact(h.inv.tab.prow hiW hr).ent
   have oz:Zb i o:=by
    rcases ho with ⟨_,rfl⟩|⟨hr,rfl⟩
    ·
     exact fun k _=>Zcx _ _
    ·
     exact(h.inv.tab.prow hiW hr).zero
   obtain⟨o0,o1⟩:=oa i (by omega) (by omega)
   obtain⟨x,y,hbz,hx,hy,hxy⟩:=bezout m2 m12 (p:=p) (a:=rd o (i:Int)) (b:=rd v (i:Int)) o0 (by omega) v0 (by omega)
   have dm:((Int.gcd ((Int.gcd (rd o (i:Int)) (rd v (i:Int)):Nat):Int) m:Nat):Int)∣m:=Int.gcd_dvd_right ..
   have dg:((Int.gcd ((Int.gcd (rd o (i:Int)) (rd v (i:Int)):Nat):Int) m:Nat):Int)∣((Int.gcd (rd o (i:Int)) (rd v (i:Int)):Nat):Int):=Int.gcd_dvd_left ..
   have dO:=Int.dvd_trans dg (Int.gcd_dvd_left (a:=rd o (i:Int)) (b:=rd v (i:Int)))
   have dV:=Int.dvd_trans dg (Int.gcd_dvd_right (a:=rd o (i:Int)) (b:=rd v (i:Int)))
   have d0:0 < ((Int.gcd ((Int.gcd (rd o (i:Int)) (rd v (i:Int)):Nat):Int) m:Nat):Int):=by
    have:0 < Int.gcd ((Int.gcd (rd o (i:Int)) (rd v (i:Int)):Nat):Int) m:=Int.gcd_pos_of_ne_zero_right _ (by omega)
    omega
   generalize ((Int.gcd ((Int.gcd (rd o (i:Int)) (rd v (i:Int)):Nat):Int) m:Nat):Int)=d at hbz hxy dm dO dV d0
   clear dg
   have dv1:d≤rd v (i:Int):=Int.le_of_dvd (by omega) dV
   obtain⟨eo,heo⟩:=dO
   obtain⟨ev,hev⟩:=dV
   obtain⟨eo0,eo1⟩:=ZfW d0 heo o0 (by omega)
   obtain⟨ev0,ev1⟩:=ZfW d0 hev v0 (by omega)
   obtain⟨md,hmd⟩:=dm
   obtain⟨md0,md1⟩:=ZfW d0 hmd (by omega) m12
   have hmdd:Int.tdiv m d=md:=by rw[hmd];exact Int.mul_tdiv_cancel_left _ (by omega)
   have hmde:m / d=md:=by rw[hmd];exact Int.mul_ediv_cancel_left _ (by omega)
   have c1:=combined m2 m12 (p:=p) (x:=x) (y:=y) oa hva (by omega) (by omega) (by omega) (by omega) (by omega) (by omega)
   obtain⟨nx,hnx⟩:∃nx,nx=mix m x o y v:=⟨_,rfl⟩
   have nl:nx.length=W:=by rw[hnx,Zb0,ol]
   have na:AllIn m nx:=by rw[hnx];exact Zfm (by omega)
   have nz:Zb i nx:=fun k hk=>by
    rw[hnx,Zek (by omega),oz k hk,hzi k hk];simp
   have nd:rd nx (i:Int)=d:=by
    rw[hnx,Zek (by omega)]
    have:(x*rd o (i:Int)+y*rd v (i:Int))%m=d%m:=by
     obtain⟨q,hq⟩:=hxy
     rw[show x*rd o (i:Int)+y*rd v (i:Int)=d+m*q by omega,Int.add_mul_emod_self_left]
    rw[this,Int.emod_eq_of_lt (by omega) (by omega)]
   have nP:PRow m W i nx:=⟨nl,na,nz,by omega,by omega,by rw[nd];exact⟨md,hmd⟩⟩
   rw[←hnx]at c1
   have c2:=combined m2 m12 (p:=p.set i nx) (x:=1) (y := -eo) oa na (by omega) (by omega) (by omega) (by omega) (by omega) (by omega)
   have c3:=combined m2 m12 (p:=p.set i nx) (x:=1) (y := -ev) hva na (by omega) (by omega) (by omega) (by omega) (by omega) (by omega)
   have c4:=combined m2 m12 (p:=p.set i nx) (x:=md) (y:=0) na na rfl (by omega) (by omega) (by omega) (by omega) (by omega)
   have f1:wrapI ((wrapI (0 - rd o (i:Int))).tdiv d) = -eo:=by rw[w64 (x:=0 - rd o (i:Int)) (by omega) (by omega),heo,Zf7 d0,w64 (by omega) (by omega)]
   have f2:wrapI ((wrapI (0 - rd v (i:Int))).tdiv d) = -ev:=by rw[w64 (x:=0 - rd v (i:Int)) (by omega) (by omega),hev,Zf7 d0,w64 (by omega) (by omega)]
   have f3:wrapI (Int.tdiv m d)=md:=by rw[hmdd];exact w64 (by omega) (by omega)
   have l3:∀a b c:List Int,([a,b,c]:List (List Int)).length=3:=fun _ _ _=>rfl
   have hset:(p.set i nx).length=W:=by rw[List.length_set];exact hpl
   refine⟨p.set i nx,[mix m 1 o (-eo) nx,mix m 1 v (-ev) nx,mix m md nx 0 nx],?_,rfl,?_,?_⟩
   ·
    rw[Zp.j1_eq]
    by_cases q:rd o (i:Int)=0
    ·
     (with_reducible repeat (first|refine ZP (by first|assumption|omega|rfl|exact B_pos (by omega)) ?_|refine ZO (by first|assumption|omega|decide|exact B_not (by omega)) ?_|refine Zq (by first|assumption) ?_|dsimp only))
     rw[Int.toNat_natCast,f1]
     (with_reducible repeat (first|refine ZP (by first|assumption|omega|rfl|exact B_pos (by omega)) ?_|refine ZO (by first|assumption|omega|decide|exact B_not (by omega)) ?_|refine Zq (by first|assumption) ?_|dsimp only))
     rw[f2]
     (with_reducible repeat (first|refine ZP (by first|assumption|omega|rfl|exact B_pos (by omega)) ?_|refine ZO (by first|assumption|omega|decide|exact B_not (by omega)) ?_|refine Zq (by first|assumption) ?_|dsimp only))
     rw[f3]
     (with_reducible repeat (first|refine ZP (by first|assumption|omega|rfl|exact B_pos (by omega)) ?_|refine ZO (by first|assumption|omega|decide|exact B_not (by omega)) ?_|refine Zq (by first|assumption) ?_|dsimp only))
     rw[l3]
     (with_reducible repeat (first|refine ZP (by first|assumption|omega|rfl|exact B_pos (by omega)) ?_|refine ZO (by first|assumption|omega|decide|exact B_not (by omega)) ?_|refine Zq (by first|assumption) ?_|dsimp only))
    ·
     have q2:=hnd q
     (with_reducible repeat (first|refine ZP (by first|assumption|omega|rfl|exact B_pos (by omega)) ?_|refine ZO (by first|assumption|omega|decide|exact B_not (by omega)) ?_|refine Zq (by first|assumption) ?_|dsimp only))
     rw[Int.toNat_natCast,f1]
     (with_reducible repeat (first|refine ZP (by first|assumption|omega|rfl|exact B_pos (by omega)) ?_|refine ZO (by first|assumption|omega|decide|exact B_not (by omega)) ?_|refine Zq (by first|assumption) ?_|dsimp only))
     rw[f2]
     (with_reducible repeat (first|refine ZP (by first|assumption|omega|rfl|exact B_pos (by omega)) ?_|refine ZO (by first|assumption|omega|decide|exact B_not (by omega)) ?_|refine Zq (by first|assumption) ?_|dsimp only))
     rw[f3]
     (with_reducible repeat (first|refine ZP (by first|assumption|omega|rfl|exact B_pos (by omega)) ?_|refine ZO (by first|assumption|omega|decide|exact B_not (by omega)) ?_|refine Zq (by first|assumption) ?_|dsimp only))
     rw[l3]
     (with_reducible repeat (first|refine ZP (by first|assumption|omega|rfl|exact B_pos (by omega)) ?_|refine ZO (by first|assumption|omega|decide|exact B_not (by omega)) ?_|refine Zq (by first|assumption) ?_|dsimp only))
   ·
    have g0:∀k:Nat,k < W→m∣1*rd o (k:Int)+(-eo)*rd nx (k:Int) - rd (mix m 1 o (-eo) nx) (k:Int):=fun k hk=>Zd5 (by omega)
    have g1:∀k:Nat,k < W→m∣1*rd v (k:Int)+(-ev)*rd nx (k:Int) - rd (mix m 1 v (-ev) nx) (k:Int):=fun k hk=>Zd5 (by omega)
    have g2:∀k:Nat,k < W→m∣md*rd nx (k:Int)+0*rd nx (k:Int) - rd (mix m md nx 0 nx) (k:Int):=fun k hk=>Zd5 (by omega)
    have zb:∀(a b:Int) (r:List Int),r.length=W→Zb i r→a*rd r (i:Int)+b*d=0∨a*rd r (i:Int)+b*d=m→Zb (i+1) (mix m a r b nx):=fun a b r hr hz hab k hk=>by
     rw[Zek (by omega)]
     by_cases e:k=i
     ·
      subst e
      rw[nd]
      rcases hab with hab|hab <;> rw[hab]
      ·
       exact Int.zero_emod m
      ·
       exact Int.emod_self
     ·
      rw[hz k (by omega),nz k (by omega)];simp
    refine h.swap hiW hne nP (fun w hw => ?_) (fun hr => ?_) ?_ ?_ ?_
    ·
     simp only[List.mem_cons,List.not_mem_nil,or_false]at hw
     rcases hw with rfl|rfl|rfl
     ·
      exact⟨⟨by rw[Zb0];exact ol,Zfm (by omega)⟩,zb 1 (-eo) o ol oz (.inl (by rw[heo,Int.neg_mul,Int.mul_comm eo d];omega))⟩
     ·
      exact⟨⟨by rw[Zb0];exact hvl,Zfm (by omega)⟩,zb 1 (-ev) v hvl hzi (.inl (by rw[hev,Int.neg_mul,Int.mul_comm ev d];omega))⟩
     ·
      exact⟨⟨by rw[Zb0];exact nl,Zfm (by omega)⟩,zb md 0 nx nl nz (.inr (by rw[nd,hmd,Int.mul_comm md d];omega))⟩
    ·
     have ho' : o=row p (i:Int):=by
      rcases ho with ⟨e,_⟩|⟨_,e⟩
      ·
       exact absurd e hr
      ·
       exact e
     rw[←ho']
     exact Sp.two (a:=1) (b:=eo) (x:=V (mix m 1 o (-eo) nx)) (y:=V nx) (.gen (.inr ⟨_,List.mem_cons_self ..,rfl⟩)) (.gen (.inl rfl)) fun k hk=>Zhy (g0 k hk)
    ·
     exact Sp.two (a:=1) (b:=ev) (x:=V (mix m 1 v (-ev) nx)) (y:=V nx) (.gen (.inr ⟨_,List.mem_cons_of_mem _ (List.mem_cons_self ..),rfl⟩)) (.gen (.inl rfl)) fun k hk=>Zhy (g1 k hk)
    ·
     refine .alike (.gen ⟨_,List.mem_cons_of_mem _ (List.mem_cons_of_mem _ (List.mem_cons_self ..)),rfl⟩) fun k hk => ?_
     obtain⟨q,hq⟩:=g2 k hk
     refine⟨-q,?_⟩
     rw[nd,hmde,Int.mul_neg,←hq]
     show rd (mix m md nx 0 nx) (k:Int) - md*rd nx (k:Int)=_
     omega
    ·
     have hov:∀G:Vc→Prop,(row p (i:Int)≠[]→G (V (row p (i:Int))))→Sp m W G (V o):=fun G hG=>by
      rcases ho with ⟨_,rfl⟩|⟨hr,rfl⟩
      ·
       exact .alike .nil fun k hk=>by
        show m∣0 - rd (List.replicate v.length (0:Int)) (k:Int)
        rw[Zcx];exact⟨0,by omega⟩
      ·
       exact .gen (hG hr)
     have ho2:=hov (fun g=>g=V v∨(row p (i:Int)≠[]∧g=V (row p (i:Int)))) fun hr => .inr ⟨hr,rfl⟩
     have hn2:Sp m W (fun g=>g=V v∨(row p (i:Int)≠[]∧g=V (row p (i:Int)))) (V nx):=Sp.two (a:=x) (b:=y) (x:=V o) (y:=V v) ho2 (.gen (.inl rfl)) fun k hk=>by
      have:m∣x*rd o (k:Int)+y*rd v (k:Int) - rd (mix m x o y v) (k:Int):=Zd5 (by omega)
      rwa[←hnx]at this
     intro g hg
     rcases hg with rfl|⟨w,hw,rfl⟩
     ·
      exact hn2
     simp only[List.mem_cons,List.not_mem_nil,or_false]at hw
     rcases hw with rfl|rfl|rfl
     ·
      exact Sp.two (a:=1) (b := -eo) ho2 hn2 fun k hk=>g0 k hk
     ·
      exact Sp.two (a:=1) (b := -ev) (x:=V v) (.gen (.inl rfl)) hn2 fun k hk=>g1 k hk
     ·
      exact Sp.two (a:=md) (b:=0) hn2 hn2 fun k hk=>g2 k hk
   ·
    rw[ZjF hpl hiW,if_pos hiW,ZgS hpl hiW nP.ne,nd]
    unfold dv
    rcases ho with ⟨e,_⟩|⟨hr,e⟩
    ·
     rw[if_pos e];omega
    ·
     rw[if_neg hr,←e]
     have hO:=(h.inv.tab.prow hiW hr).pos
     rw[←e]at hO
     have q2:=hnd (by omega)
     have:d≤rd o (i:Int):=Int.le_of_dvd hO ⟨eo,heo⟩
     by_cases q:d=rd o (i:Int)
     ·
      exact absurd (ZdW.2 ⟨ev,by rw[←q];exact hev⟩) q2
     ·
      omega
  have start:∀o:List Int,(row p (i:Int)=[]∧o=List.replicate v.length 0∨row p (i:Int)≠[]∧o=row p (i:Int))→Zp.l0 m p (st++[v])=Zp.j1 v i o m p st:=by
   intro o ho
   rw[Zp.l0_eq,e1,ZfK,Int.toNat_natCast,Ze6,Int.toNat_natCast]
   rcases ho with ⟨e,rfl⟩|⟨hr,rfl⟩
   ·
    have e' : (row p (i:Int)).length=0:=by rw[e];rfl
    ((with_reducible repeat (first|refine ZP (by first|assumption|omega|rfl|exact B_pos (by omega)) ?_|refine ZO (by first|assumption|omega|decide|exact B_not (by omega)) ?_|refine Zq (by first|assumption) ?_|dsimp only));first|done|(with_reducible rfl)|simp (disch:=omega) only[w64]|(show False;done))
   ·
    have e' : 0 < (row p (i:Int)).length:=List.length_pos_iff.2 hr
    ((with_reducible repeat (first|refine ZP (by first|assumption|omega|rfl|exact B_pos (by omega)) ?_|refine ZO (by first|assumption|omega|decide|exact B_not (by omega)) ?_|refine Zq (by first|assumption) ?_|dsimp only));first|done|(with_reducible rfl)|simp (disch:=omega) only[w64]|(show False;done))
  by_cases hr:row p (i:Int)=[]
  ·
   have hs:=start _ (.inl ⟨hr,rfl⟩)
   obtain⟨p', ws,k1,k2,k3,k4⟩:=swap _ (.inl ⟨hr,rfl⟩) (fun q=>absurd (Zcx _ _) q)
   exact .inr ⟨p', ws,hs.trans k1,k2,k3,k4⟩
  have hs:=start _ (.inr ⟨hr,rfl⟩)
  by_cases hd:Int.tmod (rd v (i:Int)) (rd (row p (i:Int)) (i:Int))=0
  rotate_left
  ·
   obtain⟨p', ws,k1,k2,k3,k4⟩:=swap _ (.inr ⟨hr,rfl⟩) (fun _=>hd)
   exact .inr ⟨p', ws,hs.trans k1,k2,k3,k4⟩
  have hP:=h.inv.tab.prow hiW hr
  have pl:=hP.len
  have p0:=hP.pos
  have p1:=hP.lt
  obtain⟨e,he⟩:=ZdW.1 hd
  obtain⟨ee0,ee1⟩:=ZfW p0 he v0 (by omega)
  have c1:=combined m2 m12 (p:=p) (x:=1) (y := -e) hva hP.ent (by omega) (by omega) (by omega) (by omega) (by omega) (by omega)
  have f1:wrapI ((wrapI (0 - rd v (i:Int))).tdiv (rd (row p (i:Int)) (i:Int))) = -e:=by rw[w64 (x:=0 - rd v (i:Int)) (by omega) (by omega),he,Zf7 p0,w64 (by omega) (by omega)]
  have hpne:¬ rd (row p (i:Int)) (i:Int)=0:=by omega
  have l1:∀a:List Int,([a]:List (List Int)).length=1:=fun _=>rfl
  have hstep:Zp.j1 v i (row p (i:Int)) m p st=Zp.l0 m p (st++[mix m 1 v (-e) (row p (i:Int))]):=by
   rw[Zp.j1_eq,f1]
   (with_reducible repeat (first|refine ZP (by first|assumption|omega|rfl|exact B_pos (by omega)) ?_|refine ZO (by first|assumption|omega|decide|exact B_not (by omega)) ?_|refine Zq (by first|assumption) ?_|dsimp only))
   rw[l1]
   ((with_reducible repeat (first|refine ZP (by first|assumption|omega|rfl|exact B_pos (by omega)) ?_|refine ZO (by first|assumption|omega|decide|exact B_not (by omega)) ?_|refine Zq (by first|assumption) ?_|dsimp only));first|done|(with_reducible rfl)|simp (disch:=omega) only[w64]|(show False;done))
  have wl:(mix m 1 v (-e) (row p (i:Int))).length=W:=by rw[Zb0];exact hvl
  have wz:Zb (i+1) (mix m 1 v (-e) (row p (i:Int))):=fun k hk=>by
   rw[Zek (by omega)]
   by_cases q:k=i
   ·
    subst q
    rw[he,show 1*(rd (row p (k:Int)) (k:Int)*e) + -e*rd (row p (k:Int)) (k:Int)=0 by rw[Int.neg_mul,Int.mul_comm e];omega]
    exact Int.zero_emod m
   ·
    rw[hzi k (by omega),hP.zero k (by omega)];simp
  have h' := h.less (c:=e) hiW hr hne ⟨wl,Zfm (by omega)⟩ (fun k hk=>wz k (by omega)) fun k hk=>Zd5 (by omega)
  rcases ih (i+1) _ p st (by omega) wz h' hst with ⟨k1,k2⟩|⟨p', ws,k1,k2,k3,k4⟩
  ·
   exact .inl ⟨(hs.trans hstep).trans k1,k2⟩
  ·
   exact .inr ⟨p', ws,(hs.trans hstep).trans k1,k2,k3,k4⟩
theorem put_ {m:Int} (m2:2≤m) (m12:m≤12) {W:Nat} (hW:W≤100000) {M:Vc→Prop} {p:List (List Int)} {r:List Int} (h:Pst m W p [r] M):∃p', Zp.f m p r=some (m,p')∧Pst m W p' [] M:=by
 rw[Zp.f_eq]
 have key:∀(D:Nat) (k:Nat) (p st:List (List Int)),st.length=k→dsum m p W≤D→(st.length:Int)+3*dsum m p W≤100000000→Pst m W p st M→∃p', Zp.l0 m p st=some (m,p')∧Pst m W p' [] M:=by
  intro D
  induction D with
  | zero =>
   intro k
   induction k with
   | zero =>
    intro p st hl _ _ h
    obtain rfl:=List.length_eq_zero_iff.1 hl
    refine⟨p,?_,h⟩
    rw[Zp.l0_eq]
    ((with_reducible repeat (first|refine ZP (by first|assumption|omega|rfl|exact B_pos (by omega)) ?_|refine ZO (by first|assumption|omega|decide|exact B_not (by omega)) ?_|refine Zq (by first|assumption) ?_|dsimp only));first|done|(with_reducible rfl)|simp (disch:=omega) only[w64]|(show False;done))
   | succ k ih =>
    intro p st hl hD hK h
    obtain⟨st', v,rfl⟩:∃st' v,st=st' ++ [v]:=⟨st.dropLast,st.getLast (fun e=>by rw[e]at hl;simp at hl),(List.dropLast_concat_getLast _).symm⟩
    have e0:(st' ++ [v]).length=st'.length+1:=by simp
    obtain⟨s0,_⟩:=ZfG (show 0 < m by omega) h.inv.tab W (Nat.le_refl _)
    rcases put_top m2 m12 hW W 0 v p st' (by omega) (fun i hi=>by omega) h (by omega)with ⟨k1,k2⟩|⟨p', ws,k1,k2,k3,k4⟩
    ·
     rw[k1]
     exact ih p st' (by omega) hD (by omega) k2
    ·
     obtain⟨s1,_⟩:=ZfG (show 0 < m by omega) k3.inv.tab W (Nat.le_refl _)
     omega
  | succ D ihD =>
   intro k
   induction k with
   | zero =>
    intro p st hl _ _ h
    obtain rfl:=List.length_eq_zero_iff.1 hl
    refine⟨p,?_,h⟩
    rw[Zp.l0_eq]
    ((with_reducible repeat (first|refine ZP (by first|assumption|omega|rfl|exact B_pos (by omega)) ?_|refine ZO (by first|assumption|omega|decide|exact B_not (by omega)) ?_|refine Zq (by first|assumption) ?_|dsimp only));first|done|(with_reducible rfl)|simp (disch:=omega) only[w64]|(show False;done))
   | succ k ih =>
    intro p st hl hD hK h
    obtain⟨st', v,rfl⟩:∃st' v,st=st' ++ [v]:=⟨st.dropLast,st.getLast (fun e=>by rw[e]at hl;simp at hl),(List.dropLast_concat_getLast _).symm⟩
    have e0:(st' ++ [v]).length=st'.length+1:=by simp
    obtain⟨s0,_⟩:=ZfG (show 0 < m by omega) h.inv.tab W (Nat.le_refl _)
    rcases put_top m2 m12 hW W 0 v p st' (by omega) (fun i hi=>by omega) h (by omega)with ⟨k1,k2⟩|⟨p', ws,k1,k2,k3,k4⟩
    ·
     rw[k1]
     exact ih p st' (by omega) hD (by omega) k2
    ·
     rw[k1]
     have e1:(st' ++ ws).length=st'.length+3:=by rw[List.length_append,k2]
     exact ihD _ p' (st' ++ ws) rfl (by omega) (by omega) k3
 obtain⟨s0,s1⟩:=ZfG (show 0 < m by omega) h.inv.tab W (Nat.le_refl _)
 have hb:m*(W:Int)≤12*100000:=Int.mul_le_mul (by omega) (by omega) (by omega) (by omega)
 exact key (dsum m p W).toNat 1 p [r] rfl (by omega) (by show(1:Int)+_≤_;omega) h
end Go.Proofs.YthmcpmnhdbeahaaGreat.V
namespace Go.Proofs.YthmcpmnhdbeahaaGreat.V
open Go.RowKit Go.Proofs.YthmcpmnhdbeahaaGreat.D Go.Proofs.YthmcpmnhdbeahaaGreat.P
end Go.Proofs.YthmcpmnhdbeahaaGreat.V
namespace Go.Proofs.YthmcpmnhdbeahaaGreat.V
open Go.RowKit Go.Proofs.YthmcpmnhdbeahaaGreat.D Go.Proofs.YthmcpmnhdbeahaaGreat.P
section
variable {m:Int} {W:Nat} {p:List (List Int)} {M:Vc→Prop} {G G' : Vc→Prop}
theorem Pst.lead (m0:0 < m) (h:Pst m W p [] M):Lead m W p M:=by
 have e:∀k g,GT W p [] k g→Sp m W (Rws W p k) g:=fun k g hg=>by
  rcases hg with hg|⟨s,hs,_⟩
  ·
   exact .gen hg
  ·
   cases hs
 exact ZkJ m0 h.inv.tab (fun j hj hr=>(h.inv.how j hj hr).mono (e _)) fun x=>by
  rw[←h.spn x]
  exact⟨fun hx=>hx.mono fun g hg => .gen (.inl hg),fun hx=>hx.mono (e 0)⟩
theorem Pst.add {r:List Int} (h:Pst m W p [] (Sp m W G)) (hr:r.length=W∧AllIn m r) (hG:∀g,G' g↔G g∨g=V r):Pst m W p [r] (Sp m W G') where
 inv:=⟨h.inv.tab,fun s hs=>by rw[List.mem_singleton]at hs;subst hs;exact hr,fun j hj hn=>(h.inv.how j hj hn).mono fun g hg=>by
  rcases hg with hg|⟨s,hs,_⟩
  ·
   exact .gen (.inl hg)
  ·
   cases hs⟩
 spn := fun x=>by
  constructor
  ·
   intro hx
   refine hx.mono fun g hg => ?_
   rcases hg with hg|⟨s,hs,_,rfl⟩
   ·
    exact((h.spn g).1 (.gen (.inl hg))).mono fun g hg => .gen ((hG g).2 (.inl hg))
   ·
    rw[List.mem_singleton]at hs
    subst hs
    exact .gen ((hG _).2 (.inr rfl))
  ·
   intro hx
   refine hx.mono fun g hg => ?_
   rcases(hG g).1 hg with hg|rfl
   ·
    refine((h.spn g).2 (.gen hg)).mono fun g hg => ?_
    rcases hg with hg|⟨s,hs,_⟩
    ·
     exact .gen (.inl hg)
    ·
     cases hs
   ·
    exact .gen (.inr ⟨r,List.mem_singleton.2 rfl,fun i hi=>by omega,rfl⟩)
theorem Zf0 (n:Nat) (i:Int):row (List.replicate n ([]:List Int)) i=[]:=by
 simp only[row,List.getD_eq_getElem?_getD,List.getElem?_replicate]
 split <;> rfl
theorem Pst.none (hG:∀g,¬ G g):Pst m W (List.replicate W []) [] (Sp m W G) where
 inv:=⟨⟨List.length_replicate,fun j _ => .inl (Zf0 _ _)⟩,fun s hs=>(by cases hs),fun j _ hn=>absurd (Zf0 _ _) hn⟩
 spn:=fun x=>by
  constructor
  ·
   intro hx
   refine hx.mono fun g hg => ?_
   rcases hg with ⟨j,_,_,hn,_⟩|⟨s,hs,_⟩
   ·
    exact absurd (Zf0 _ _) hn
   ·
    cases hs
  ·
   intro hx
   exact hx.mono fun g hg=>absurd hg (hG g)
def Gn (f:Nat→List Int) (k:Nat):Vc→Prop:=fun g=>∃i:Nat,i < k∧g=V (f i)
theorem Zid {f:Nat→List Int} {k:Nat} (g:Vc):Gn f (k+1) g↔Gn f k g∨g=V (f k):=by
 constructor
 ·
  rintro⟨i,hi,rfl⟩
  by_cases e:i=k
  ·
   exact .inr (by rw[e])
  ·
   exact .inl ⟨i,by omega,rfl⟩
 ·
  rintro(⟨i,hi,rfl⟩|rfl)
  ·
   exact⟨i,by omega,rfl⟩
  ·
   exact⟨k,by omega,rfl⟩
theorem ZfY {r:List Int} {A i:Nat} (h:i < A):rd (r.take A) (i:Int)=rd r (i:Int):=by
 simp[rd,List.getD_eq_getElem?_getD,List.getElem?_take,h]
theorem ZfX {r:List Int} {A i:Nat}:rd (r.drop A) (i:Int)=rd r ((A+i:Nat):Int):=by
 simp only[rd,Int.toNat_natCast,List.getD_eq_getElem?_getD,List.getElem?_drop]
theorem Lead.first {A B:Nat} {q:List (List Int)} (h:Lead m (A+B) p M) (m0:0 < m) (hl:q.length=A) (hr:∀j:Nat,j < A→row q (j:Int)=(row p (j:Int)).take A) :
    Lead m A q (fun x=>∃y,M y∧∀i,i < A→m∣y i - x i):=by
  have hP:∀j:Nat,j < A→row p (j:Int)≠[]→PRow m A j (row q (j:Int)):=fun j hj hn=>by
    have k:=h.tab.prow (show j < A+B by omega) hn
    rw[hr j hj]
    refine⟨by rw[List.length_take,k.len];omega,k.ent.take _,fun i hi=>by rw[ZfY (by omega)];exact k.zero i hi,?_,?_,?_⟩ <;> rw[ZfY hj]
    · exact k.pos
    · exact k.lt
    · exact k.dvd
  have hE:∀j:Nat,j < A→(row q (j:Int)=[]↔row p (j:Int)=[]):=fun j hj=>by
    constructor
    · intro e
      by_cases hn:row p (j:Int)=[]
      · exact hn
      · exact absurd e (hP j hj hn).ne
    · intro e;rw[hr j hj,e];simp
  have hdv:∀j:Nat,j < A→dv m q j=dv m p j:=fun j hj=>by
    unfold dv
    by_cases hn:row p (j:Int)=[]
    · rw[if_pos hn,if_pos ((hE j hj).2 hn)]
    · rw[if_neg hn,if_neg fun e=>hn ((hE j hj).1 e),hr j hj,ZfY hj]
  exact {
    tab:=⟨hl,fun j hj=>by
      by_cases hn:row p (j:Int)=[]
      · exact .inl ((hE j hj).2 hn)
      · exact .inr (hP j hj hn)⟩
    sub := ⟨⟨_,h.sub.zero,fun i _=>ZbA rfl⟩,fun x y ⟨x', hx,ex⟩ ⟨y', hy,ey⟩ c=>⟨_,h.sub.lin _ _ hx hy c,fun i hi=>by
      have:=Int.dvd_add (ex i hi) (Int.dvd_mul_of_dvd_right (b:=c) (ey i hi))
      rw[Int.mul_sub]at this
      rwa[show ∀a b c d:Int,a+c - (b+d)=a - b+(c - d)from fun a b c d=>by omega]⟩,
      fun x y ⟨x', hx,ex⟩ e=>⟨x', hx,fun i hi=>by
        have:=Int.dvd_add (ex i hi) (e i hi)
        rwa[show ∀a b c:Int,a - b+(b - c)=a - c from fun a b c=>by omega]at this⟩⟩
    own:=fun j hj hn=>⟨V (row p (j:Int)),h.own j (by omega) fun e=>hn ((hE j hj).2 e),fun i hi=>by
      refine ZbA ?_
      show rd (row p (j:Int)) (i:Int)=rd (row q (j:Int)) (i:Int)
      rw[hr j hj,ZfY hi]⟩
    lead:=fun x ⟨y,hy,e⟩ j hj hz=>by
      have:=h.lead y hy j (by omega) fun i hi=>by
        have:=Int.dvd_add (e i (by omega)) (hz i hi)
        rwa[show ∀a b:Int,a - b+b=a from fun a b=>by omega]at this
      rw[hdv j hj]
      have hd:=(dv_bd m0 h.tab (show j < A+B by omega)).2.2
      have:=Int.dvd_sub this (Int.dvd_trans hd (e j hj))
      rwa[show ∀a b:Int,a - (a - b)=b from fun a b=>by omega]at this }
def pad (A:Nat) (x:Vc):Vc:=fun i=>if i < A then 0 else x (i - A)
theorem Lead.last {A B:Nat} {q:List (List Int)} (h:Lead m (A+B) p M) (m0:0 < m) (hl:q.length=B) (hr:∀j:Nat,j < B→row q (j:Int)=(row p ((A+j:Nat):Int)).drop A) :
    Lead m B q (fun x=>M (pad A x)):=by
  have hP:∀j:Nat,j < B→row p ((A+j:Nat):Int)≠[]→PRow m B j (row q (j:Int)):=fun j hj hn=>by
    have k:=h.tab.prow (show A+j < A+B by omega) hn
    rw[hr j hj]
    refine⟨by rw[List.length_drop,k.len];omega,k.ent.drop _,fun i hi=>by rw[ZfX];exact k.zero _ (by omega),?_,?_,?_⟩ <;> rw[ZfX]
    · exact k.pos
    · exact k.lt
    · exact k.dvd
  have hE:∀j:Nat,j < B→(row q (j:Int)=[]↔row p ((A+j:Nat):Int)=[]):=fun j hj=>by
    constructor
    · intro e
      by_cases hn:row p ((A+j:Nat):Int)=[]
      · exact hn
      · exact absurd e (hP j hj hn).ne
    · intro e;rw[hr j hj,e];simp
  have hdv:∀j:Nat,j < B→dv m q j=dv m p (A+j):=fun j hj=>by
    unfold dv
    by_cases hn:row p ((A+j:Nat):Int)=[]
    · rw[if_pos hn,if_pos ((hE j hj).2 hn)]
    · rw[if_neg hn,if_neg fun e=>hn ((hE j hj).1 e),hr j hj,ZfX]
  have hpad:∀(x y:Vc) (c:Int),pad A (fun i=>x i+c*y i)=fun i=>pad A x i+c*pad A y i:=fun x y c=>by
    funext i
    unfold pad
    by_cases h:i < A
    · simp[h]
    · simp[h]
  exact {
    tab:=⟨hl,fun j hj=>by
      by_cases hn:row p ((A+j:Nat):Int)=[]
      · exact .inl ((hE j hj).2 hn)
      · exact .inr (hP j hj hn)⟩
    sub := ⟨h.sub.alike _ _ h.sub.zero fun i _=>ZbA (by unfold pad;simp),fun x y hx hy c=>by rw[hpad];exact h.sub.lin _ _ hx hy c,
      fun x y hx e=>h.sub.alike _ _ hx fun i hi=>by
        unfold pad
        by_cases k:i < A
        · simp[k]
        · simp only[k,if_false]
          exact e (i - A) (by omega)⟩
    own := fun j hj hn=>by
      have hn' : row p ((A+j:Nat):Int)≠[]:=fun e=>hn ((hE j hj).2 e)
      refine h.sub.alike _ _ (h.own (A+j) (by omega) hn') fun i hi=>ZbA ?_
      unfold pad
      by_cases k:i < A
      · simp only[k,if_true]
        exact(h.tab.prow (show A+j < A+B by omega) hn').zero i (by omega)
      · simp only[k,if_false]
        show rd (row p ((A+j:Nat):Int)) (i:Int)=rd (row q (j:Int)) ((i - A:Nat):Int)
        rw[hr j hj,ZfX,show A+(i - A)=i by omega]
    lead := fun x hx j hj hz=>by
      have:=h.lead _ hx (A+j) (by omega) fun i hi=>by
        unfold pad
        by_cases k:i < A
        · simp[k]
        · simp only[k,if_false]
          exact hz _ (by omega)
      rw[hdv j hj]
      unfold pad at this
      rw[if_neg (by omega),show A+j - A=j by omega]at this
      exact this }
theorem ZbP {a b:List Int} {i:Nat} (h:i < a.length):rd (a++b) (i:Int)=rd a (i:Int):=by
 simp[rd,List.getD_eq_getElem?_getD,List.getElem?_append,h]
theorem ZbK {a b:List Int} {i:Nat} (h:a.length≤i):rd (a++b) (i:Int)=rd b ((i - a.length:Nat):Int):=by
 simp only[rd,Int.toNat_natCast,List.getD_eq_getElem?_getD,List.getElem?_append,if_neg (show ¬ i < a.length by omega)]
end
theorem ZdD {t:List Int} {j:Nat} {x:Int} (h:j < t.length):rd (t.set j x) (j:Int)=x:=by
 rw[rd_get (by rw[List.length_set];exact h)];simp
theorem ZdU {t:List Int} {i j:Nat} {x:Int} (h:i≠j):rd (t.set j x) (i:Int)=rd t (i:Int):=by
 simp only[rd,Int.toNat_natCast,List.getD_eq_getElem?_getD,List.getElem?_set,if_neg (show ¬ j=i from fun e=>h e.symm)]
end Go.Proofs.YthmcpmnhdbeahaaGreat.V
namespace Go.Proofs.YthmcpmnhdbeahaaGreat.V
open Go.RowKit Go.Proofs.YthmcpmnhdbeahaaGreat.D Go.Proofs.YthmcpmnhdbeahaaGreat.P
def unitC (c i:Nat):List Int:=(List.replicate c (0:Int)).set i 1
theorem Zdh (c i:Nat):(unitC c i).length=c:=by simp[unitC]
theorem ZhL {m:Int} (m2:2≤m) (c i:Nat):AllIn m (unitC c i):=Zct fun x hx=>by
 rcases List.mem_or_eq_of_mem_set hx with h|h
 ·
  rw[List.mem_replicate]at h;omega
 ·
  omega
theorem Zdi (g:List (List Int)) (m:Int) (u v:List Int) (d:Nat):(bdL g m u v d).length=(cells g ((d+1:Nat):Int)).toNat:=by rw[bdL,List.length_map,List.length_range]
theorem Zkf {m:Int} (m2:2≤m) (g:List (List Int)) (u v:List Int) (d:Nat):AllIn m (bdL g m u v d):=Zct fun x hx=>by
 obtain⟨i,_,rfl⟩:=List.mem_map.1 hx
 exact⟨Int.emod_nonneg _ (by omega),Int.emod_lt_of_pos _ (by omega)⟩
noncomputable def bdU (g:List (List Int)) (m:Int) (u:List Int) (e i:Nat):List Int:=bdL g m u (unitC (cells g (e:Int)).toNat i) e
noncomputable def bdG (g:List (List Int)) (m:Int) (u:List Int):Nat→Vc→Prop
 | 0=>fun _=>False
 | e+1=>Gn (bdU g m u e) (cells g (e:Int)).toNat
noncomputable def bdA (g:List (List Int)) (m:Int) (u:List Int) (e i:Nat):List Int:=bdU g m u e i++unitC (cells g (e:Int)).toNat i
noncomputable def nB (g:List (List Int)) (e:Nat):Nat:=(cells g (e:Int)).toNat
theorem Zjp {g:List (List Int)} (hg:Grp g) {m:Int} (m2:2≤m) {e:Nat} (he:e≤3) (i:Nat):Co g m e (unitC (cells g (e:Int)).toNat i):=by
 have hb:=ZdI hg (d:=(e:Int)) (by omega)
 exact⟨⟨by omega,by omega⟩,by rw[Zdh];omega,ZhL m2 _ _⟩
theorem ZfM (m:Int) {c:Nat} (hc:c≤100000):ZaU.f m (c:Int)=some (m,List.replicate c []):=by
 rw[ZaU.f_eq,Int.toNat_natCast]
 ((with_reducible repeat (first|refine ZP (by first|assumption|omega|rfl|exact B_pos (by omega)) ?_|refine ZO (by first|assumption|omega|decide|exact B_not (by omega)) ?_|refine Zq (by first|assumption) ?_|dsimp only));first|done|(with_reducible rfl)|simp (disch:=omega) only[w64]|(show False;done))
theorem concat2 {a b:List Int} (ha:a.length≤1000000) (hb:b.length≤1000000):Zf.f [a,b]=some (a++b):=by
 have l2:([a,b]:List (List Int)).length=2:=rfl
 have r0:row [a,b] 0=a:=rfl
 have r1:row [a,b] 1=b:=rfl
 have w1:wrapI (0+1)=1:=w64 (by omega) (by omega)
 have w2:wrapI (1+1)=2:=w64 (by omega) (by omega)
 have w3:wrapI (0+(a.length:Int))=(a.length:Int):=by rw[w64 (by omega) (by omega)];omega
 have w4:wrapI ((a.length:Int)+(b.length:Int))=((a.length+b.length:Nat):Int):=by rw[w64 (by omega) (by omega)];omega
 have w5:wrapI (0 - 0)=0:=w64 (by omega) (by omega)
 have hG:Zaw.f ((a.length+b.length:Nat):Int)=some []:=by
  have w6:wrapI (((a.length+b.length:Nat):Int) - 0)=((a.length+b.length:Nat):Int):=by rw[w64 (by omega) (by omega)];omega
  rw[Zaw.f_eq,w5,w6,Int.toNat_natCast,List.length_replicate]
  by_cases h:a.length+b.length=0
  ·
   rw[h];((with_reducible repeat (first|refine ZP (by first|assumption|omega|rfl|exact B_pos (by omega)) ?_|refine ZO (by first|assumption|omega|decide|exact B_not (by omega)) ?_|refine Zq (by first|assumption) ?_|dsimp only));first|done|(with_reducible rfl)|simp (disch:=omega) only[w64]|(show False;done))
  ·
   (with_reducible repeat (first|refine ZP (by first|assumption|omega|rfl|exact B_pos (by omega)) ?_|refine ZO (by first|assumption|omega|decide|exact B_not (by omega)) ?_|refine Zq (by first|assumption) ?_|dsimp only))
   rfl
 rw[Zf.f_eq,l2,Zf.l0_eq,r0,w1,w3]
 (with_reducible repeat (first|refine ZP (by first|assumption|omega|rfl|exact B_pos (by omega)) ?_|refine ZO (by first|assumption|omega|decide|exact B_not (by omega)) ?_|refine Zq (by first|assumption) ?_|dsimp only))
 rw[Zf.l0_eq,r1,w2,w4]
 (with_reducible repeat (first|refine ZP (by first|assumption|omega|rfl|exact B_pos (by omega)) ?_|refine ZO (by first|assumption|omega|decide|exact B_not (by omega)) ?_|refine Zq (by first|assumption) ?_|dsimp only))
 rw[Zf.l0_eq]
 (with_reducible repeat (first|refine ZP (by first|assumption|omega|rfl|exact B_pos (by omega)) ?_|refine ZO (by first|assumption|omega|decide|exact B_not (by omega)) ?_|refine Zq (by first|assumption) ?_|dsimp only))
 rw[l2,Zf.l1_eq,r0,w1,show([]:List Int).length=0 from rfl]
 (with_reducible repeat (first|refine ZP (by first|assumption|omega|rfl|exact B_pos (by omega)) ?_|refine ZO (by first|assumption|omega|decide|exact B_not (by omega)) ?_|refine Zq (by first|assumption) ?_|dsimp only))
 rw[List.nil_append,Zf.l1_eq,r1,w2]
 (with_reducible repeat (first|refine ZP (by first|assumption|omega|rfl|exact B_pos (by omega)) ?_|refine ZO (by first|assumption|omega|decide|exact B_not (by omega)) ?_|refine Zq (by first|assumption) ?_|dsimp only))
 rw[Zf.l1_eq]
 ((with_reducible repeat (first|refine ZP (by first|assumption|omega|rfl|exact B_pos (by omega)) ?_|refine ZO (by first|assumption|omega|decide|exact B_not (by omega)) ?_|refine Zq (by first|assumption) ?_|dsimp only));first|done|(with_reducible rfl)|simp (disch:=omega) only[w64]|(show False;done))
theorem nA_bd {g:List (List Int)} (hg:Grp g) {e:Nat} (he:e≤4):nB g e≤16807∧((nB g e:Nat):Int)=cells g (e:Int):=by
 have hb:=ZdI hg (d:=(e:Int)) (by omega)
 unfold nB
 omega
theorem ZhO {g:List (List Int)} (hg:Grp g) {m:Int} {u:List Int} (hm:Mdl g m u) {n:Nat} (hn:n≤3) :
  ∃p,Z9.f g m u (n:Int)=some (m,p)∧Pst m (nB g n) p [] (Sp m (nB g n) (bdG g m u n)):=by
 have m2:=hm.m2;have m12:=hm.m12
 obtain⟨b1,b2⟩:=nA_bd hg (e:=n) (by omega)
 have hc:=Zfa hg (d:=(n:Int)) (by omega) (by omega)
 have hN:=ZfM m (c:=nB g n) (by omega)
 rw[b2]at hN
 rw[Z9.f_eq,hc,Option.bind_some,hN,Option.bind_some]
 cases n with
 | zero =>
  refine⟨_,if_pos rfl,Pst.none fun g h=>h⟩
 | succ e =>
  obtain⟨c1,c2⟩:=nA_bd hg (e:=e) (by omega)
  have w:wrapI (((e+1:Nat):Int) - 1)=(e:Int):=by rw[w64 (by omega) (by omega)];omega
  have hc2:=Zfa hg (d:=(e:Int)) (by omega) (by omega)
  have hz:=zero_ hg (n:=e) (by omega)
  rw[←show nB g e=(cells g (e:Int)).toNat from rfl]at hz
  rw[w,hc2,Option.bind_some,if_neg (by omega),←c2]
  have key:∀k,k≤nB g e→∃p,Z9.l0 ((e+1:Nat):Int) ((nB g e:Nat):Int) 0 g m u m (List.replicate (nB g (e+1)) [])=Z9.l0 ((e+1:Nat):Int) ((nB g e:Nat):Int) (k:Int) g m u m p∧Pst m (nB g (e+1)) p [] (Sp m (nB g (e+1)) (Gn (bdU g m u e) k)):=by
   intro k
   induction k with
   | zero=>exact fun _=>⟨_,rfl,Pst.none fun g ⟨i,hi,_⟩=>by omega⟩
   | succ k ih =>
    intro hk
    obtain⟨p,h1,h2⟩:=ih (by omega)
    have hl:(List.replicate (nB g e) (0:Int)).length=nB g e:=List.length_replicate
    have hB:=Zgd hg hm (Zjp hg m2 (e:=e) (by omega) k)
    have hB:ZaO.f g m u (e:Int) ((List.replicate (nB g e) (0:Int)).set k 1)=some (((e+1:Nat):Int),bdU g m u e k):=hB
    obtain⟨p', h3,h4⟩:=put_ m2 m12 (show nB g (e+1)≤100000 by omega) (h2.add (r:=bdU g m u e k) ⟨Zdi ..,Zkf m2 _ _ _ _⟩ Zid)
    refine⟨p', ?_,h4⟩
    rw[h1,Z9.l0_eq,w,wn (j:=k) (by omega),Int.toNat_natCast]
    ((with_reducible repeat (first|refine ZP (by first|assumption|omega|rfl|exact B_pos (by omega)) ?_|refine ZO (by first|assumption|omega|decide|exact B_not (by omega)) ?_|refine Zq (by first|assumption) ?_|dsimp only));first|done|(with_reducible rfl)|simp (disch:=omega) only[w64]|(show False;done))
  obtain⟨p,h1,h2⟩:=key _ (Nat.le_refl _)
  refine⟨p,?_,h2⟩
  have e1:(cells g ((e+1:Nat):Int)).toNat=nB g (e+1):=rfl
  rw[h1,Z9.l0_eq]
  ((with_reducible repeat (first|refine ZP (by first|assumption|omega|rfl|exact B_pos (by omega)) ?_|refine ZO (by first|assumption|omega|decide|exact B_not (by omega)) ?_|refine Zq (by first|assumption) ?_|dsimp only));first|done|(with_reducible rfl)|simp (disch:=omega) only[w64]|(show False;done))
theorem ZjA {g:List (List Int)} (hg:Grp g) {m:Int} {u:List Int} (hm:Mdl g m u) {n:Nat} (hn:n≤3) :
  ∃p,ZaA.f g m u (n:Int)=some (m,p,((nB g (n+1):Nat):Int))∧Pst m (nB g (n+1)+nB g n) p [] (Sp m (nB g (n+1)+nB g n) (Gn (bdA g m u n) (nB g n))):=by
 have m2:=hm.m2;have m12:=hm.m12
 obtain⟨b1,b2⟩:=nA_bd hg (e:=n) (by omega)
 obtain⟨c1,c2⟩:=nA_bd hg (e:=n+1) (by omega)
 have hc:=Zfa hg (d:=(n:Int)) (by omega) (by omega)
 have hc2:=Zfa hg (d:=((n+1:Nat):Int)) (by omega) (by omega)
 have hz:=zero_ hg (n:=n) (by omega)
 rw[←show nB g n=(cells g (n:Int)).toNat from rfl]at hz
 have hN:=ZfM m (c:=nB g (n+1)+nB g n) (by omega)
 have w:wrapI ((nB g (n+1):Int)+(nB g n:Int))=((nB g (n+1)+nB g n:Nat):Int):=by rw[w64 (by omega) (by omega)];omega
 rw[ZaA.f_eq,wn (j:=n) (by omega),hc2,Option.bind_some,hc,Option.bind_some,←b2,←c2,w,hN,Option.bind_some]
 have key:∀k,k≤nB g n→∃p,ZaA.l0 (n:Int) ((nB g (n+1):Nat):Int) ((nB g n:Nat):Int) 0 g m u m (List.replicate (nB g (n+1)+nB g n) [])=ZaA.l0 (n:Int) ((nB g (n+1):Nat):Int) ((nB g n:Nat):Int) (k:Int) g m u m p∧Pst m (nB g (n+1)+nB g n) p [] (Sp m (nB g (n+1)+nB g n) (Gn (bdA g m u n) k)):=by
  intro k
  induction k with
  | zero=>exact fun _=>⟨_,rfl,Pst.none fun g ⟨i,hi,_⟩=>by omega⟩
  | succ k ih =>
   intro hk
   obtain⟨p,h1,h2⟩:=ih (by omega)
   have hl:(List.replicate (nB g n) (0:Int)).length=nB g n:=List.length_replicate
   have hB:=Zgd hg hm (Zjp hg m2 (e:=n) (by omega) k)
   have hB:ZaO.f g m u (n:Int) ((List.replicate (nB g n) (0:Int)).set k 1)=some (((n+1:Nat):Int),bdU g m u n k):=hB
   have bl:(bdU g m u n k).length=nB g (n+1):=Zdi ..
   have ul:(unitC (nB g n) k).length=nB g n:=Zdh ..
   have hC:Zf.f [bdU g m u n k,(List.replicate (nB g n) (0:Int)).set k 1]=some (bdA g m u n k):=concat2 (a:=bdU g m u n k) (b:=unitC (nB g n) k) (by omega) (by omega)
   have al:(bdA g m u n k).length=nB g (n+1)+nB g n:=by
    show(bdU g m u n k++unitC (nB g n) k).length=_
    rw[List.length_append,bl,ul]
   obtain⟨p', h3,h4⟩:=put_ m2 m12 (show nB g (n+1)+nB g n≤100000 by omega) (h2.add (r:=bdA g m u n k) ⟨al,(Zkf m2 _ _ _ _).append (ZhL m2 _ _)⟩ Zid)
   refine⟨p', ?_,h4⟩
   rw[h1,ZaA.l0_eq,wn (j:=k) (by omega),Int.toNat_natCast]
   ((with_reducible repeat (first|refine ZP (by first|assumption|omega|rfl|exact B_pos (by omega)) ?_|refine ZO (by first|assumption|omega|decide|exact B_not (by omega)) ?_|refine Zq (by first|assumption) ?_|dsimp only));first|done|(with_reducible rfl)|simp (disch:=omega) only[w64]|(show False;done))
 obtain⟨p,h1,h2⟩:=key _ (Nat.le_refl _)
 refine⟨p,?_,h2⟩
 rw[h1,ZaA.l0_eq]
 ((with_reducible repeat (first|refine ZP (by first|assumption|omega|rfl|exact B_pos (by omega)) ?_|refine ZO (by first|assumption|omega|decide|exact B_not (by omega)) ?_|refine Zq (by first|assumption) ?_|dsimp only));first|done|(with_reducible rfl)|simp (disch:=omega) only[w64]|(show False;done))
def ZcQ (p:List (List Int)) (A B:Nat):List (List Int):=(List.range B).map fun j:Nat=>(row p ((A+j:Nat):Int)).drop A
theorem ZgF {p:List (List Int)} {A B j:Nat} (h:j < B):row (ZcQ p A B) (j:Int)=(row p ((A+j:Nat):Int)).drop A:=by
 rw[Ze2 (by simpa [ZcQ] using h)]
 simp[ZcQ]
theorem Zjd (F:Nat→List Int) (B k:Nat) (h:k < B):((List.range k).map F++List.replicate (B - k) []).set k (F k)=(List.range (k+1)).map F++List.replicate (B - (k+1)) []:=by
 rw[List.set_append,if_neg (by simp),List.length_map,List.length_range,Nat.sub_self,show B - k=(B - (k+1))+1 by omega,List.replicate_succ,List.set_cons_zero,List.range_succ,List.map_append]
 simp
theorem Zjc (F:Nat→List Int) (B k:Nat) (h:k < B) (e:F k=[]):(List.range k).map F++List.replicate (B - k) []=(List.range (k+1)).map F++List.replicate (B - (k+1)) []:=by
 rw[show B - k=(B - (k+1))+1 by omega,List.replicate_succ,List.range_succ,List.map_append,List.map_singleton,e]
 simp
theorem Zj0 (F:Nat→List Int) (B k:Nat) (h:k≤B):((List.range k).map F++List.replicate (B - k) []).length=B:=by simp;omega
theorem part_ {m:Int} {p:List (List Int)} {A B:Nat} (hA:A≤100000) (hB:B≤100000) (ht:PTab m (A+B) p):Zae.f m p (A:Int)=some (m,ZcQ p A B,m,p):=by
 have hl:=ht.len
 have w:wrapI ((p.length:Int) - (A:Int))=(B:Int):=by rw[w64 (by omega) (by omega)];omega
 rw[Zae.f_eq,w,ZfM m hB,Option.bind_some]
 obtain⟨F,hF⟩:∃F:Nat→List Int,F=fun j:Nat=>(row p ((A+j:Nat):Int)).drop A:=⟨_,rfl⟩
 have loop:=up B (fun k=>Zae.l0 (A:Int) ((A+k:Nat):Int) m p m ((List.range k).map F++List.replicate (B - k) [])) (fun k hk=>by
  have hw:wrapI (((A+k:Nat):Int) - (A:Int))=(k:Int):=by rw[w64 (by omega) (by omega)];omega
  have rl:=Zj0 F B k (by omega)
  have hFk:F k=(row p ((A+k:Nat):Int)).drop A:=by rw[hF]
  rw[show A+(k+1)=A+k+1 from rfl,Zae.l0_eq,wn (j:=A+k) (by omega),hw]
  simp only[Int.toNat_natCast]
  rw[←hFk]
  by_cases hr:row p ((A+k:Nat):Int)=[]
  ·
   have e0:(row p ((A+k:Nat):Int)).length=0:=by rw[hr];rfl
   rw[←Zjc F B k hk (by rw[hFk,hr];simp)]
   ((with_reducible repeat (first|refine ZP (by first|assumption|omega|rfl|exact B_pos (by omega)) ?_|refine ZO (by first|assumption|omega|decide|exact B_not (by omega)) ?_|refine Zq (by first|assumption) ?_|dsimp only));first|done|(with_reducible rfl)|simp (disch:=omega) only[w64]|(show False;done))
  ·
   have hP:=ht.prow (show A+k < A+B by omega) hr
   have e1:=hP.len
   have e2:(F k).length=B:=by rw[hFk,List.length_drop,e1];omega
   rw[←Zjd F B k hk]
   ((with_reducible repeat (first|refine ZP (by first|assumption|omega|rfl|exact B_pos (by omega)) ?_|refine ZO (by first|assumption|omega|decide|exact B_not (by omega)) ?_|refine Zq (by first|assumption) ?_|dsimp only));first|done|(with_reducible rfl)|simp (disch:=omega) only[w64]|(show False;done)))
 rw[List.range_zero,List.map_nil,List.nil_append,Nat.sub_zero,Nat.add_zero,Nat.sub_self,List.replicate_zero,List.append_nil]at loop
 rw[show ZcQ p A B=(List.range B).map F by rw[hF];rfl]
 refine loop.trans ?_
 rw[Zae.l0_eq]
 ((with_reducible repeat (first|refine ZP (by first|assumption|omega|rfl|exact B_pos (by omega)) ?_|refine ZO (by first|assumption|omega|decide|exact B_not (by omega)) ?_|refine Zq (by first|assumption) ?_|dsimp only));first|done|(with_reducible rfl)|simp (disch:=omega) only[w64]|(show False;done))
noncomputable def coM (g:List (List Int)) (m:Int) (u:List Int) (n:Nat):Vc→Prop:=fun x=>Sp m (nB g (n+1)+nB g n) (Gn (bdA g m u n) (nB g n)) (pad (nB g (n+1)) x)
theorem Zf1 {m:Int} {p:List (List Int)} {A B:Nat} {M:Vc→Prop} (m0:0 < m) (h:Lead m (A+B) p M):Lead m B (ZcQ p A B) (fun x=>M (pad A x)) :=
 h.last m0 (by simp[ZcQ]) fun j hj=>ZgF hj
theorem Zis {g:List (List Int)} (hg:Grp g) {m:Int} {u:List Int} (hm:Mdl g m u) {n:Nat} (hn:n≤3) :
  ∃q,ZaW.f g m u (n:Int)=some (m,q)∧Lead m (nB g n) q (coM g m u n):=by
 have m2:=hm.m2
 obtain⟨b1,b2⟩:=nA_bd hg (e:=n) (by omega)
 obtain⟨c1,c2⟩:=nA_bd hg (e:=n+1) (by omega)
 obtain⟨p,h1,h2⟩:=ZjA hg hm hn
 have h3:=h2.lead (by omega)
 have h4:=part_ (m:=m) (A:=nB g (n+1)) (B:=nB g n) (by omega) (by omega) h3.tab
 refine⟨_,?_,Zf1 (by omega) h3⟩
 rw[ZaW.f_eq]
 ((with_reducible repeat (first|refine ZP (by first|assumption|omega|rfl|exact B_pos (by omega)) ?_|refine ZO (by first|assumption|omega|decide|exact B_not (by omega)) ?_|refine Zq (by first|assumption) ?_|dsimp only));first|done|(with_reducible rfl)|simp (disch:=omega) only[w64]|(show False;done))
noncomputable def allM (g:List (List Int)) (m:Int) (u:List Int) (e:Nat):Vc→Prop:=Sp m (nB g (e+1)+nB g e) (Gn (bdA g m u e) (nB g e))
end Go.Proofs.YthmcpmnhdbeahaaGreat.V
namespace Go.Proofs.YthmcpmnhdbeahaaGreat.V
open Go.RowKit Go.Proofs.YthmcpmnhdbeahaaGreat.D Go.Proofs.YthmcpmnhdbeahaaGreat.P
def Zjk (m:Int) (p:List (List Int)) (W:Nat):List Int:=(List.range W).map fun j=>m / dv m p j
theorem Zj5 {m:Int} (m2:2≤m) (m12:m≤12) {W:Nat} {p:List (List Int)} (ht:PTab m W p) {j:Nat} (hj:j < W) (hr:row p (j:Int)≠[]):wrapI (Int.tdiv m (T p (j:Int) (j:Int)))=m / dv m p j∧¬ T p (j:Int) (j:Int)=0:=by
 have hP:=ht.prow hj hr
 have p0:=hP.pos
 have e:dv m p j=rd (row p (j:Int)) (j:Int):=if_neg hr
 have hT:T p (j:Int) (j:Int)=rd (row p (j:Int)) (j:Int):=rfl
 rw[hT,e,Zeb (by omega)]
 have d0:0≤m / rd (row p (j:Int)) (j:Int):=Int.ediv_nonneg (by omega) (by omega)
 have d1:m / rd (row p (j:Int)) (j:Int)≤m:=Int.ediv_le_self _ (by omega)
 exact⟨w64 (by omega) (by omega),by omega⟩
theorem Zkp {m:Int} (m2:2≤m) (m12:m≤12) {W:Nat} (hW:W≤100000) {p:List (List Int)} (ht:PTab m W p):ZR.f m p=some (Zjk m p W,m,p):=by
 have hl:=ht.len
 have l2:∀x:Int,([x]:List Int).length=1:=fun _=>rfl
 have sl:∀k,((List.range k).map fun j=>m / dv m p j).length=k:=fun k=>by simp
 have one:∀k:Nat,row p (k:Int)=[]→m / dv m p k=1:=fun k h=>by
  rw[show dv m p k=m from if_pos h];exact Int.ediv_self (by omega)
 rw[ZR.f_eq,hl]
 have loop:=up W (fun k=>ZR.l0 (W:Int) (k:Int) m p ((List.range k).map fun j=>m / dv m p j)) (fun k hk=>by
  have s1:=sl k
  rw[ZR.l0_eq,wn (j:=k) (by omega),List.range_succ,List.map_append,List.map_singleton]
  by_cases hr:row p (k:Int)=[]
  ·
   have e0:(row p (k:Int)).length=0:=by rw[hr];rfl
   rw[one k hr]
   (with_reducible repeat (first|refine ZP (by first|assumption|omega|rfl|exact B_pos (by omega)) ?_|refine ZO (by first|assumption|omega|decide|exact B_not (by omega)) ?_|refine Zq (by first|assumption) ?_|dsimp only))
   rw[l2]
   ((with_reducible repeat (first|refine ZP (by first|assumption|omega|rfl|exact B_pos (by omega)) ?_|refine ZO (by first|assumption|omega|decide|exact B_not (by omega)) ?_|refine Zq (by first|assumption) ?_|dsimp only));first|done|(with_reducible rfl)|simp (disch:=omega) only[w64]|(show False;done))
  ·
   obtain⟨e1,e2⟩:=Zj5 m2 m12 ht hk hr
   have hP:=ht.prow hk hr
   have pl:=hP.len
   rw[e1]
   (with_reducible repeat (first|refine ZP (by first|assumption|omega|rfl|exact B_pos (by omega)) ?_|refine ZO (by first|assumption|omega|decide|exact B_not (by omega)) ?_|refine Zq (by first|assumption) ?_|dsimp only))
   rw[l2]
   ((with_reducible repeat (first|refine ZP (by first|assumption|omega|rfl|exact B_pos (by omega)) ?_|refine ZO (by first|assumption|omega|decide|exact B_not (by omega)) ?_|refine Zq (by first|assumption) ?_|dsimp only));first|done|(with_reducible rfl)|simp (disch:=omega) only[w64]|(show False;done)))
 simp only[Int.natCast_zero,List.range_zero,List.map_nil]at loop
 rw[loop,ZR.l0_eq]
 (with_reducible repeat (first|refine ZP (by first|assumption|omega|rfl|exact B_pos (by omega)) ?_|refine ZO (by first|assumption|omega|decide|exact B_not (by omega)) ?_|refine Zq (by first|assumption) ?_|dsimp only))
 rfl
def lc (p:List (List Int)) (t:List Int):Nat→Vc
 | 0=>fun _=>0
 | k+1=>fun i=>lc p t k i+rd t (k:Int)*rd (row p (k:Int)) (i:Int)
theorem ZiM (p:List (List Int)) (t:List Int) (k i:Nat):lc p t (k+1) i=lc p t k i+rd t (k:Int)*rd (row p (k:Int)) (i:Int):=rfl
structure Least0 (m:Int) (W k:Nat) (p:List (List Int)) (M:Vc→Prop) (x y t:List Int):Prop where
 len:y.length=W
 ent:AllIn m y
 dif:M fun i=>rd x (i:Int) - rd y (i:Int)
 lt:∀j:Nat,j < k→rd y (j:Int) < dv m p j
 tlen:t.length=W
 tbd:∀j:Nat,j < W→0≤rd t (j:Int)∧rd t (j:Int)≤12
 tnil:∀j:Nat,row p (j:Int)=[]→rd t (j:Int)=0
 tak:∀i:Nat,i < W→m∣rd x (i:Int) - rd y (i:Int) - lc p t k i
theorem ZjS {p:List (List Int)} {t t' : List Int}:∀k,(∀j:Nat,j < k→rd t (j:Int)=rd t' (j:Int))→lc p t k=lc p t' k:=by
 intro k
 induction k with
 | zero=>intro _;rfl
 | succ k ih =>
  intro h
  funext i
  rw[lc,lc,ih fun j hj=>h j (by omega),h k (by omega)]
theorem Least0.skip {m:Int} {W k:Nat} {p:List (List Int)} {M:Vc→Prop} {x y t:List Int} (h:Least0 m W k p M x y t) (hk:k < W) (hr:row p (k:Int)=[]):Least0 m W (k+1) p M x y t :=
  { h with
    lt := fun j hj=>by
      by_cases e:j=k
      · subst e
        rw[show dv m p j=m from if_pos hr]
        exact(h.ent j (by omega) (by rw[h.len];omega)).2
      · exact h.lt j (by omega)
    tak:=fun i hi=>by
      rw[ZiM,h.tnil k hr,Int.zero_mul,Int.add_zero]
      exact h.tak i hi }
theorem Least0.take {m:Int} {W k:Nat} {p:List (List Int)} {M:Vc→Prop} {x y t:List Int} (m2:2≤m) (m12:m≤12) (hM:Lead m W p M) (h:Least0 m W k p M x y t) (hk:k < W) (hr:row p (k:Int)≠[]) :
  Least0 m W (k+1) p M x (mix m 1 y (-(rd y (k:Int) / rd (row p (k:Int)) (k:Int))) (row p (k:Int))) (t.set k (rd y (k:Int) / rd (row p (k:Int)) (k:Int))):=by
 have hP:=hM.tab.prow hk hr
 have p0:=hP.pos
 have p1:=hP.lt
 have yl:=h.len
 have tl:=h.tlen
 obtain⟨y0,y1⟩:=h.ent k (by omega) (by omega)
 obtain⟨q,hq⟩:∃q,q=rd y (k:Int) / rd (row p (k:Int)) (k:Int):=⟨_,rfl⟩
 rw[←hq]
 have hmod:=Int.mul_ediv_add_emod (rd y (k:Int)) (rd (row p (k:Int)) (k:Int))
 rw[←hq]at hmod
 have r0:=Int.emod_nonneg (rd y (k:Int)) (show rd (row p (k:Int)) (k:Int)≠0 by omega)
 have r1:=Int.emod_lt_of_pos (rd y (k:Int)) p0
 have q0:0≤q:=by rw[hq];exact Int.ediv_nonneg y0 (by omega)
 have q1:q≤rd y (k:Int):=by rw[hq];exact Int.ediv_le_self _ y0
 have hy:∀i:Nat,i < W→m∣1*rd y (i:Int)+(-q)*rd (row p (k:Int)) (i:Int) - rd (mix m 1 y (-q) (row p (k:Int))) (i:Int):=fun i hi=>Zd5 (by omega)
 refine⟨by rw[Zb0];exact yl,Zfm (by omega),?_,fun j hj => ?_,by rw[List.length_set];exact tl,fun j hj => ?_,fun j hn => ?_,fun i hi => ?_⟩
 ·
  refine hM.sub.alike _ _ (hM.sub.lin _ _ h.dif (hM.own k hk hr) q) fun i hi => ?_
  obtain⟨z,hz⟩:=hy i hi
  refine⟨-z,?_⟩
  rw[Int.mul_neg,←hz,Int.neg_mul]
  show rd x (i:Int) - rd y (i:Int)+q*rd (row p (k:Int)) (i:Int) - (rd x (i:Int) - rd (mix m 1 y (-q) (row p (k:Int))) (i:Int))=_
  omega
 ·
  by_cases e:j=k
  ·
   subst e
   rw[Zek (by omega),show dv m p j=rd (row p (j:Int)) (j:Int)from if_neg hr,show 1*rd y (j:Int) + -q*rd (row p (j:Int)) (j:Int)=rd y (j:Int)%rd (row p (j:Int)) (j:Int)by rw[Int.neg_mul,Int.mul_comm q];omega,Int.emod_eq_of_lt r0 (by omega)]
   exact r1
  ·
   obtain⟨a0,a1⟩:=h.ent j (by omega) (by omega)
   rw[Zek (by omega),hP.zero j (by omega),Int.mul_zero,Int.add_zero,Int.one_mul,Int.emod_eq_of_lt a0 a1]
   exact h.lt j (by omega)
 ·
  by_cases e:j=k
  ·
   subst e;rw[ZdD (by omega)];omega
  ·
   rw[ZdU e];exact h.tbd j hj
 ·
  have e:j≠k:=fun e=>hr (e ▸ hn)
  rw[ZdU e];exact h.tnil j hn
 ·
  rw[ZiM,ZdD (by omega),ZjS k fun j hj=>ZdU (show j≠k by omega)]
  obtain⟨z,hz⟩:=hy i hi
  obtain⟨z', hz'⟩:=h.tak i hi
  refine⟨z' + z,?_⟩
  rw[Int.mul_add,←hz,←hz', Int.neg_mul]
  omega
theorem Least0.fin {m:Int} {W:Nat} {p:List (List Int)} {M:Vc→Prop} {x y t:List Int} (h:Least0 m W W p M x y t):Least m W p M x y:=⟨h.len,h.ent,h.dif,h.lt⟩
end Go.Proofs.YthmcpmnhdbeahaaGreat.V
namespace Go.Proofs.YthmcpmnhdbeahaaGreat.V
open Go.RowKit Go.Proofs.YthmcpmnhdbeahaaGreat.D Go.Proofs.YthmcpmnhdbeahaaGreat.P
theorem ZiK {g:List (List Int)} (hg:Grp g) {k:Nat} (hk:k≤4):ZaX.f g (k:Int)=some (B (nB g k≤49)):=by
 obtain⟨b1,b2⟩:=nA_bd hg hk
 have hc:=Zfa hg (d:=(k:Int)) (by omega) (by omega)
 rw[ZaX.f_eq,hc,Option.bind_some,←b2,Zeq,ZbU (show((nB g k:Nat):Int)≤49↔nB g k≤49 by omega)]
theorem Co.nB {g:List (List Int)} (hg:Grp g) {m:Int} {k:Nat} {v:List Int} (h:Co g m k v):v.length=nB g k:=by
 have:=h.2.1
 have hk:=h.1.2
 obtain⟨b1,b2⟩:=nA_bd hg (e:=k) (by omega)
 omega
end Go.Proofs.YthmcpmnhdbeahaaGreat.V
set_option maxRecDepth 100000
namespace Go.Proofs.YthmcpmnhdbeahaaGreat.P
open Go Go.RowKit Go.Proofs.YthmcpmnhdbeahaaGreat.D
end Go.Proofs.YthmcpmnhdbeahaaGreat.P
set_option maxRecDepth 20000
namespace Go.Proofs.YthmcpmnhdbeahaaGreat.V
open Go.RowKit Go.Proofs.YthmcpmnhdbeahaaGreat.D Go.Proofs.YthmcpmnhdbeahaaGreat.P
structure LB (g:List (List Int)) (m:Int) (u:List Int) (e:Nat) (v y:List Int):Prop where
 len:y.length=nB g e
 ent:AllIn m y
 mem:allM g m u e (V (v++y))
 lt:∀q,Lead m (nB g e) q (coM g m u e)→∀j:Nat,j < nB g e→rd y (j:Int) < dv m q j
theorem LB.same {g:List (List Int)} {m:Int} {u:List Int} {e:Nat} {v y y' : List Int} (m0:0 < m) (hv:v.length=nB g (e+1)) {q:List (List Int)} (hq:Lead m (nB g e) q (coM g m u e)) (h:LB g m u e v y) (h' : LB g m u e v y'):y=y' := by
 have hd:coM g m u e fun i=>rd y (i:Int) - rd y' (i:Int):=by
  refine .alike ((show Sp m _ _ _ from h.mem).plus ((show Sp m _ _ _ from h'.mem).mul (-1))) fun i hi=>ZbA ?_
  show rd (v++y) (i:Int) + -1*rd (v++y') (i:Int)=pad (nB g (e+1)) (fun i=>rd y (i:Int) - rd y' (i:Int)) i
  unfold pad
  by_cases k:i < nB g (e+1)
  ·
   rw[if_pos k,ZbP (by omega),ZbP (by omega)];omega
  ·
   rw[if_neg k,ZbK (by omega),ZbK (by omega),hv];dsimp only;omega
 exact Least.same m0 hq hq (x:=y) ⟨h.len,h.ent,hq.sub.alike _ _ hq.sub.zero fun i _=>ZbA (by simp),h.lt q hq⟩ ⟨h'.len,h'.ent,hd,h'.lt q hq⟩
end Go.Proofs.YthmcpmnhdbeahaaGreat.V
namespace Go.Proofs.YthmcpmnhdbeahaaGreat.V
open Go.RowKit Go.Proofs.YthmcpmnhdbeahaaGreat.D
def sgn:Nat→Int
 | 0 => -1
 | j+1=>0 - sgn j
def sumJ (g:List (List Int)) (A:List Int→Int) (xs:List Int):Nat→Int
 | 0=>0
 | j+1=>sumJ g A xs j+sgn j*A (join2 g xs j)
def BdS (g:List (List Int)) (u:List Int) (A:List Int→Int) (xs:List Int) (d:Nat):Int:=rd u (rd xs 0)*A (xs.drop 1)+sumJ g A xs d+sgn d*A (xs.take d)
theorem Bd_eq (g:List (List Int)) (u v xs:List Int) (d:Nat):Bd g u v xs d=BdS g u (At g v) xs d:=by
 have h:∀j,bsum g u v xs j=(rd u (rd xs 0)*At g v (xs.drop 1)+sumJ g (At g v) xs j,sgn j):=by
  intro j
  induction j with
  | zero=>simp[bsum,sumJ,sgn]
  | succ j ih=>simp only[bsum,ih,sumJ,sgn,Int.add_assoc]
 unfold Bd BdS
 rw[h d]
theorem Zj8 (g:List (List Int)) (A A' : List Int→Int) (c:Int) (xs:List Int):∀d,sumJ g (fun l=>A l+c*A' l) xs d=sumJ g A xs d+c*sumJ g A' xs d:=by
 intro d
 induction d with
 | zero=>simp[sumJ]
 | succ d ih =>
  simp only[sumJ,ih,Int.mul_add]
  rw[←Int.mul_assoc (sgn d) c,Int.mul_comm (sgn d) c,Int.mul_assoc]
  omega
theorem Zks (g:List (List Int)) (u:List Int) (A A' : List Int→Int) (c:Int) (xs:List Int) (d:Nat):BdS g u (fun l=>A l+c*A' l) xs d=BdS g u A xs d+c*BdS g u A' xs d:=by
 unfold BdS
 rw[Zj8]
 simp only[Int.mul_add]
 rw[←Int.mul_assoc (sgn d) c,Int.mul_comm (sgn d) c,Int.mul_assoc,←Int.mul_assoc (rd u (rd xs 0)) c,Int.mul_comm (rd u (rd xs 0)) c,Int.mul_assoc]
 omega
noncomputable def AtF (g:List (List Int)) (h:Vc) (xs:List Int):Int:=ite_ (Zck xs) (h (idx g xs).toNat) 0
theorem At_F (g:List (List Int)) (v:List Int):At g v=AtF g (V v):=by
 funext xs
 unfold At AtF
 by_cases h:Zck xs
 ·
  rw[ZbG h,ZbG h];show v.getD (idx g xs).toNat 0=v.getD ((((idx g xs).toNat:Nat):Int)).toNat 0;rw[Int.toNat_natCast]
 ·
  rw[ZbB h,ZbB h]
theorem Zkr (g:List (List Int)) (h h' : Vc) (c:Int):AtF g (fun i=>h i+c*h' i)=fun l=>AtF g h l+c*AtF g h' l:=by
 funext xs
 unfold AtF
 by_cases k:Zck xs
 ·
  simp only[ZbG k]
 ·
  simp only[ZbB k];omega
theorem Zjt (g:List (List Int)):AtF g (fun _=>0)=fun _=>0:=by
 funext xs
 unfold AtF
 by_cases k:Zck xs
 ·
  rw[ZbG k]
 ·
  rw[ZbB k]
theorem Zjn (g:List (List Int)) (xs:List Int):∀d,sumJ g (fun _=>0) xs d=0:=by
 intro d
 induction d with
 | zero=>rfl
 | succ d ih=>simp[sumJ,ih]
theorem Zju (g:List (List Int)) (u xs:List Int) (d:Nat):BdS g u (fun _=>0) xs d=0:=by unfold BdS;rw[Zjn];simp
theorem Zk7 {g:List (List Int)} (hg:Grp g) {e:Nat} (he:e≤3) {xs:List Int} (hx:AllIn g.length xs) (hl:xs.length=e) (h:Zck xs):0≤idx g xs∧(idx g xs).toNat < nB g e:=by
 obtain⟨a,b⟩:=ZeK hg (Zjp hg (m:=2) (by omega) he 0) hx (by omega) h
 rw[Zdh]at b
 have:((cells g (e:Int)).toNat:Int)=((nB g e:Nat):Int):=rfl
 omega
theorem Zew {g:List (List Int)} (hg:Grp g) {m:Int} {e:Nat} (he:e≤3) {h h' : Vc} (hh:∀i,i < nB g e→m∣h i - h' i) {xs:List Int} (hx:AllIn g.length xs) (hl:xs.length=e):m∣AtF g h xs - AtF g h' xs:=by
 unfold AtF
 by_cases k:Zck xs
 ·
  rw[ZbG k,ZbG k]
  exact hh _ (Zk7 hg he hx hl k).2
 ·
  rw[ZbB k,ZbB k]
  exact⟨0,by omega⟩
theorem ZcK {m a b c:Int} (h:m∣a - b):m∣c*a - c*b:=by
 rw[←Int.mul_sub];exact Int.dvd_mul_of_dvd_right h
theorem ZcJ {m a b c d:Int} (h:m∣a - b) (h' : m∣c - d):m∣(a+c) - (b+d):=by
 have:=Int.dvd_add h h'
 rwa[show a - b+(c - d)=a+c - (b+d)by omega]at this
theorem Zf8 {g:List (List Int)} (hg:Grp g) {m:Int} {u:List Int} {e:Nat} (he:e≤3) {h h' : Vc} (hh:∀i,i < nB g e→m∣h i - h' i) {xs:List Int} (hx:AllIn g.length xs) (hl:xs.length=e+1):m∣BdS g u (AtF g h) xs e - BdS g u (AtF g h') xs e:=by
 unfold BdS
 refine ZcJ (ZcJ (ZcK (Zew hg he hh (hx.drop 1) (by rw[List.length_drop];omega))) ?_) (ZcK (Zew hg he hh (hx.take e) (by rw[List.length_take];omega)))
 have:∀d,d≤e→m∣sumJ g (AtF g h) xs d - sumJ g (AtF g h') xs d:=by
  intro d
  induction d with
  | zero=>intro _;exact⟨0,by simp[sumJ]⟩
  | succ d ih =>
   intro hd
   obtain⟨k1,k2⟩:=ZfJ hg hx (j:=d) (by omega)
   exact ZcJ (ih (by omega)) (ZcK (Zew hg he hh k1 (by omega)))
 exact this e (Nat.le_refl _)
def Bnd (g:List (List Int)) (m:Int) (u:List Int) (e:Nat) (z:Vc):Prop:=∀i,i < nB g (e+1)→m∣z i - BdS g u (AtF g fun k=>z (nB g (e+1)+k)) (lst ((g.length:Int) - 1) (e+1) (i:Int)) e
theorem Zkm {g:List (List Int)} (hg:Grp g) {e i:Nat} (he:e≤3) (hi:i < nB g (e+1)):AllIn g.length (lst ((g.length:Int) - 1) (e+1) (i:Int))∧Zck (lst ((g.length:Int) - 1) (e+1) (i:Int)):=by
 obtain⟨c1,c2⟩:=nA_bd hg (e:=e+1) (by omega)
 exact ZiO hg (n:=e+1) (by omega)
theorem Zhj {g:List (List Int)} (hg:Grp g) {m:Int} (m2:2≤m) {u:List Int} {e:Nat} (he:e≤3) {z:Vc} (hz:allM g m u e z):Bnd g m u e z:=by
 have hs:Sub m (nB g (e+1)+nB g e) (Bnd g m u e):=by
  refine⟨fun i hi => ?_,fun x y hx hy c i hi => ?_,fun x y hx h i hi => ?_⟩
  ·
   rw[Zjt,Zju];exact⟨0,by dsimp only;omega⟩
  ·
   have e1:=Zkr g (fun k=>x (nB g (e+1)+k)) (fun k=>y (nB g (e+1)+k)) c
   rw[e1,Zks]
   exact ZcJ (hx i hi) (ZcK (hy i hi))
  ·
   have h1:=hx i hi
   have h2:=h i (by omega)
   have h3:=Zf8 hg (u:=u) he (h:=fun k=>x (nB g (e+1)+k)) (h' := fun k=>y (nB g (e+1)+k)) (m:=m) (fun k hk=>h _ (by omega)) (Zkm hg he hi).1 (Zd4 ..)
   have:=Int.dvd_add (Int.dvd_sub h1 h2) h3
   rwa[show ∀a b c d:Int,a - b - (a - c)+(b - d)=c - d from fun a b c d=>by omega]at this
 refine hs.all (fun w hw => ?_) hz
 obtain⟨k,hk,rfl⟩:=hw
 intro i hi
 have bl:(bdU g m u e k).length=nB g (e+1):=Zdi ..
 have e1:(fun j=>V (bdA g m u e k) (nB g (e+1)+j))=V (unitC (cells g (e:Int)).toNat k):=by
  funext j
  show rd (bdU g m u e k++unitC (nB g e) k) ((nB g (e+1)+j:Nat):Int)=rd (unitC (nB g e) k) (j:Int)
  rw[ZbK (by omega),bl,show nB g (e+1)+j - nB g (e+1)=j by omega]
 have e2:V (bdA g m u e k) i=bdV g u (unitC (cells g (e:Int)).toNat k) e i%m:=by
  show rd (bdU g m u e k++unitC (nB g e) k) (i:Int)=_
  rw[ZbP (by omega),rd_get (by omega)]
  simp only[bdU,bdL,List.getElem_map,List.getElem_range]
 rw[e1,e2,←At_F,←Bd_eq]
 exact⟨-(bdV g u (unitC (cells g (e:Int)).toNat k) e i / m),by
  have:=Int.mul_ediv_add_emod (bdV g u (unitC (cells g (e:Int)).toNat k) e i) m
  rw[Int.mul_neg]
  show bdV g u (unitC (cells g (e:Int)).toNat k) e i%m - bdV g u (unitC (cells g (e:Int)).toNat k) e i=_
  omega⟩
noncomputable def sumA (g:List (List Int)) (m:Int) (u:List Int) (e:Nat) (y:Vc):Nat→Vc
 | 0=>fun _=>0
 | k+1=>fun i=>sumA g m u e y k i+y k*V (bdA g m u e k) i
theorem Zj6 {g:List (List Int)} {m:Int} {u:List Int} {e:Nat} (y:Vc):∀k,k≤nB g e→allM g m u e (sumA g m u e y k):=by
 intro k
 induction k with
 | zero=>exact fun _ => .nil
 | succ k ih=>exact fun hk => .add _ (ih (by omega)) ⟨k,by omega,rfl⟩
theorem Zka {c k j:Nat} (hk:k < c):rd (unitC c k) (j:Int)=if j=k then 1 else 0:=by
 unfold unitC
 by_cases e:j=k
 ·
  subst e;rw[if_pos rfl,ZdD (by simpa using hk)]
 ·
  rw[if_neg e,ZdU e,Zcx]
theorem Zjl {g:List (List Int)} {m:Int} {u:List Int} {e:Nat} (y:Vc) (j:Nat):∀k,k≤nB g e→sumA g m u e y k (nB g (e+1)+j)=if j < k then y j else 0:=by
 intro k
 induction k with
 | zero=>intro _;simp[sumA]
 | succ k ih =>
  intro hk
  have bl:(bdU g m u e k).length=nB g (e+1):=Zdi ..
  have e1:V (bdA g m u e k) (nB g (e+1)+j)=if j=k then 1 else 0:=by
   show rd (bdU g m u e k++unitC (nB g e) k) ((nB g (e+1)+j:Nat):Int)=_
   rw[ZbK (by omega),bl,show nB g (e+1)+j - nB g (e+1)=j by omega,Zka (by omega)]
  show sumA g m u e y k (nB g (e+1)+j)+y k*V (bdA g m u e k) (nB g (e+1)+j)=_
  rw[ih (by omega),e1]
  by_cases h1:j < k
  ·
   rw[if_pos h1,if_neg (by omega),if_pos (by omega)];omega
  ·
   by_cases h2:j=k
   ·
    subst h2;rw[if_neg h1,if_pos rfl,if_pos (by omega)];omega
   ·
    rw[if_neg h1,if_neg h2,if_neg (by omega)];omega
theorem Zjz {g:List (List Int)} (hg:Grp g) {m:Int} (m2:2≤m) {u:List Int} {e:Nat} (he:e≤3) {z:Vc} (hz:Bnd g m u e z):allM g m u e z:=by
 have h1:=Zj6 (g:=g) (m:=m) (u:=u) (e:=e) (fun k=>z (nB g (e+1)+k)) (nB g e) (Nat.le_refl _)
 have h2:=Zhj hg m2 he h1
 have ht:∀j,j < nB g e→sumA g m u e (fun k=>z (nB g (e+1)+k)) (nB g e) (nB g (e+1)+j)=z (nB g (e+1)+j):=fun j hj=>by
  rw[Zjl _ _ _ (Nat.le_refl _),if_pos hj]
 refine .alike h1 fun i hi => ?_
 by_cases k:i < nB g (e+1)
 ·
  have a:=h2 i k
  have b:=hz i k
  have c:=Zf8 hg (u:=u) (m:=m) he (h:=fun k=>sumA g m u e (fun k=>z (nB g (e+1)+k)) (nB g e) (nB g (e+1)+k)) (h' := fun k=>z (nB g (e+1)+k)) (fun j hj=>ZbA (ht j hj)) (Zkm hg he k).1 (Zd4 ..)
  have:=Int.dvd_sub (Int.dvd_add a c) b
  rwa[show ∀a b c d:Int,a - b+(b - c) - (d - c)=a - d from fun a b c d=>by omega]at this
 ·
  obtain⟨j,rfl⟩:∃j,i=nB g (e+1)+j:=⟨i - nB g (e+1),by omega⟩
  exact ZbA (ht j (by omega))
theorem Zjv {g:List (List Int)} (hg:Grp g) {m:Int} (m2:2≤m) {u:List Int} {e:Nat} (he:e≤3) {w y:List Int} (hw:w.length=nB g (e+1)):allM g m u e (V (w++y))↔∀i,i < nB g (e+1)→m∣rd w (i:Int) - bdV g u y e i:=by
 have e1:(fun k=>V (w++y) (nB g (e+1)+k))=V y:=by
  funext k
  show rd (w++y) ((nB g (e+1)+k:Nat):Int)=rd y (k:Int)
  rw[ZbK (by omega),hw,show nB g (e+1)+k - nB g (e+1)=k by omega]
 have e2:Bnd g m u e (V (w++y))↔∀i,i < nB g (e+1)→m∣rd w (i:Int) - bdV g u y e i:=by
  unfold Bnd
  rw[e1]
  constructor
  ·
   intro h i hi
   have:=h i hi
   rw[←At_F,←Bd_eq]at this
   rwa[show V (w++y) i=rd w (i:Int)from ZbP (by omega)]at this
  ·
   intro h i hi
   rw[←At_F,←Bd_eq,show V (w++y) i=rd w (i:Int)from ZbP (by omega)]
   exact h i hi
 exact⟨fun h=>e2.1 (Zhj hg m2 he h),fun h=>Zjz hg m2 he (e2.2 h)⟩
def LexLe (W:Nat) (x y:List Int):Prop:=(∀i:Nat,i < W→rd x (i:Int)=rd y (i:Int))∨∃j:Nat,j < W∧(∀i:Nat,i < j→rd x (i:Int)=rd y (i:Int))∧rd x (j:Int) < rd y (j:Int)
theorem LB.first {g:List (List Int)} {m:Int} (m0:0 < m) {u:List Int} {e:Nat} {v y h:List Int} (hv:v.length=nB g (e+1)) {q:List (List Int)} (hq:Lead m (nB g e) q (coM g m u e)) (hy:LB g m u e v y) (hl:h.length=nB g e) (ha:AllIn m h) (hh:allM g m u e (V (v++h))):LexLe (nB g e) y h:=by
 have hd:coM g m u e fun i=>rd h (i:Int) - rd y (i:Int):=by
  refine .alike ((show Sp m _ _ _ from hh).plus ((show Sp m _ _ _ from hy.mem).mul (-1))) fun i hi=>ZbA ?_
  show rd (v++h) (i:Int) + -1*rd (v++y) (i:Int)=pad (nB g (e+1)) (fun i=>rd h (i:Int) - rd y (i:Int)) i
  unfold pad
  by_cases k:i < nB g (e+1)
  ·
   rw[if_pos k,ZbP (by omega),ZbP (by omega)];omega
  ·
   rw[if_neg k,ZbK (by omega),ZbK (by omega),hv];dsimp only;omega
 have main:∀k,k≤nB g e→(∀i:Nat,i < k→rd y (i:Int)=rd h (i:Int))∨∃j:Nat,j < nB g e∧(∀i:Nat,i < j→rd y (i:Int)=rd h (i:Int))∧rd y (j:Int) < rd h (j:Int):=by
  intro k
  induction k with
  | zero=>exact fun _ => .inl fun i hi=>by omega
  | succ k ih =>
   intro hk
   rcases ih (by omega)with h1|h1
   rotate_left
   ·
    exact .inr h1
   by_cases h2:rd y (k:Int)=rd h (k:Int)
   ·
    refine .inl fun i hi => ?_
    by_cases q:i=k
    ·
     rw[q];exact h2
    ·
     exact h1 i (by omega)
   ·
    refine .inr ⟨k,by omega,h1,?_⟩
    have hdv:=hq.lead _ hd k (by omega) fun i hi=>by rw[h1 i hi];exact⟨0,by omega⟩
    have b:=hy.lt q hq k (by omega)
    have yl:=hy.len
    obtain⟨y0,y1⟩:=hy.ent k (by omega) (by omega)
    obtain⟨h0,_⟩:=ha k (by omega) (by omega)
    by_cases hc:rd y (k:Int) < rd h (k:Int)
    ·
     exact hc
    ·
     have h3:dv m q k∣rd y (k:Int) - rd h (k:Int):=by
      have:=Int.dvd_neg.2 hdv
      rwa[show -(rd h (k:Int) - rd y (k:Int))=rd y (k:Int) - rd h (k:Int)by omega]at this
     have:=Int.le_of_dvd (by omega) h3
     omega
 exact(main _ (Nat.le_refl _)).imp id id
end Go.Proofs.YthmcpmnhdbeahaaGreat.V
namespace Go.Proofs.YthmcpmnhdbeahaaGreat.V
open Go Go.RowKit Go.Proofs.YthmcpmnhdbeahaaGreat.D Go.Proofs.YthmcpmnhdbeahaaGreat.P
theorem Zj9 {a m:Int}:a.tmod m=0↔m∣a:=⟨Int.dvd_of_tmod_eq_zero,Int.tmod_eq_zero_of_dvd⟩
def MapP (m m' : Int) (u w:List Int) (c:Nat):Prop:=(c:Int)*m%m' = 0∧∀i:Int,0≤i→i < u.length→(c:Int)*rd u i%m' = (c:Int)*rd w i%m'
theorem ZkK {g:List (List Int)} (hg:Grp g) {m m' : Int} {u w:List Int} (hu:Mdl g m u) (hw:Mdl g m' w):∃K:List Int,Zag.f g m u m' w=some (K,0)∧Zy.f g m u m' w=some (K,0)∧0 < K.length∧K.length≤12∧rd K 0=0:=by
 have m2:=hu.m2;have m12:=hu.m12;have n8:=hg.n8;have n1:=hg.n1;have hl:=hu.len;have hlw:=hw.len;have w2:=hw.m2;have w12:=hw.m12
 obtain⟨hgl,hgr⟩:=ZeI hg
 have cI:=Zit hgl hgr (m:=m) (m' := m') (u:=u) (u' := w) (Zbo (by omega)) (Zbo (by omega))
 have cS:=Ziv (g:=g) (m:=m) (m' := m') (u:=u) (u' := w) (Zbo (by omega)) (Zbo (by omega))
 rw[ZbG ⟨⟨hg,hu⟩,hg,hw⟩]at cI cS
 obtain⟨M,hM⟩:=Int.eq_ofNat_of_zero_le (show 0≤m' by omega)
 have bd:∀(c:Nat) (i:Int),c < M→0≤i→i < g.length→(0≤(c:Int)*m∧(c:Int)*m≤1000000)∧(0≤(c:Int)*rd u i∧(c:Int)*rd u i≤1000000)∧(0≤(c:Int)*rd w i∧(c:Int)*rd w i≤1000000):=fun c i hc i0 i1=>by
  obtain⟨a0,a1⟩:=hu.at i0 i1
  obtain⟨b0,b1⟩:=hw.at i0 i1
  exact⟨ZbE (m:=1000) (by omega) (by omega) (by omega) (by omega) (by omega),ZbE (m:=1000) (by omega) (by omega) (by omega) (by omega) (by omega),ZbE (m:=1000) (by omega) (by omega) (by omega) (by omega) (by omega)⟩
 have hcount:=counting (n:=M) (by omega)
 have hcount' := counting (n:=g.length) (by omega)
 rw[←hM]at hcount
 have hS:∀c:Nat,c < M→ZaN.f m u m' w (c:Int)=some (B (MapP m m' u w c)):=fun c hc=>by
  obtain⟨⟨p0,p1⟩,_⟩:=bd c 0 hc (by omega) (by omega)
  rw[ZaN.f_eq,if_neg (by omega),w64 (x:=(c:Int)*m) (by omega) (by omega),Zbz p0]
  by_cases h:(c:Int)*m%m' = 0
  rotate_left
  ·
   rw[if_neg h,B_neg fun k=>h k.1]
  rw[if_pos h]
  rcases scan u.length (fun i=>ZaN.l0 (c:Int) i m u m' w) (fun i=>(c:Int)*rd u i%m' = (c:Int)*rd w i%m') (some false) (fun i i0 i1 _=>by
   obtain⟨_,⟨q0,q1⟩,r0,r1⟩:=bd c i hc i0 (by omega)
   have e:ZaN.l0 (c:Int) i m u m' w=if(c:Int)*rd u i%m' = (c:Int)*rd w i%m' then ZaN.l0 (c:Int) (i+1) m u m' w else some false:=by
    rw[ZaN.l0_eq,if_pos (by omega),if_pos (by omega),if_pos (by omega),if_neg (by omega),if_pos (by omega),if_pos (by omega),if_neg (by omega),w64 (x:=(c:Int)*rd u i) (by omega) (by omega),w64 (x:=(c:Int)*rd w i) (by omega) (by omega),Zbz q0,Zbz r0,w64 (x:=i+1) (by omega) (by omega)]
   exact⟨fun k=>by rw[e,if_pos k],fun k=>by rw[e,if_neg k]⟩)with ⟨h1,h2⟩|⟨j,j0,j1,_,h1,_,h2⟩
  ·
   rw[h2,ZaN.l0_eq,if_neg (by omega),B_pos (show MapP m m' u w c from⟨h,h1⟩)]
  ·
   rw[h2,B_neg fun k=>h1 (k.2 j j0 j1)]
 have hdel:=Zdx (m:=M) (by omega) (F:=fun z0=>(ZX.f z0 m u m' w g).map fun z=>z) (p:=fun c=>B (MapP m m' u w c)) (fun c hc=>by
  show Option.map _ (ZX.f (c:Int) m u m' w g)=_
  obtain⟨⟨p0,p1⟩,_⟩:=bd c 0 hc (by omega) (by omega)
  rw[ZX.f_eq,if_neg (by omega),w64 (x:=(c:Int)*m) (by omega) (by omega),Zbz p0]
  by_cases h:(c:Int)*m%m' = 0
  rotate_left
  ·
   rw[if_neg h,B_neg fun k=>h k.1];rfl
  have hc' := Zgf (F:=fun z0=>(ZM.f z0 (c:Int) m u m' w).map fun z=>z) (p:=fun i => !decide ((c:Int)*rd u i%m' = (c:Int)*rd w i%m')) ((List.range g.length).map fun i:Nat=>(i:Int)) (by rw[List.length_map,List.length_range];omega) (fun x hx=>by
   obtain⟨i,hi,rfl⟩:=List.mem_map.1 hx
   have hi:=List.mem_range.1 hi
   show Option.map _ (ZM.f (i:Int) (c:Int) m u m' w)=_
   obtain⟨_,⟨q0,q1⟩,r0,r1⟩:=bd c (i:Int) hc (by omega) (by omega)
   rw[ZM.f_eq,if_pos (by omega),if_pos (by omega),if_pos (by omega),if_pos (by omega),if_neg (by omega),w64 (x:=(c:Int)*rd u (i:Int)) (by omega) (by omega),w64 (x:=(c:Int)*rd w (i:Int)) (by omega) (by omega),w64 (x:=(c:Int)*rd u (i:Int) - (c:Int)*rd w (i:Int)) (by omega) (by omega)]
   have hiff:((c:Int)*rd u (i:Int) - (c:Int)*rd w (i:Int)).tmod m' = 0↔(c:Int)*rd u (i:Int)%m' = (c:Int)*rd w (i:Int)%m' := by
    rw[Zj9]
    exact⟨fun k=>emS k,fun k=>Int.dvd_of_emod_eq_zero (Int.emod_eq_emod_iff_emod_sub_eq_zero.1 k)⟩
   by_cases q:(c:Int)*rd u (i:Int)%m' = (c:Int)*rd w (i:Int)%m'
   ·
    rw[decide_eq_true (hiff.2 q),decide_eq_true q];rfl
   ·
    rw[decide_eq_false fun k=>q (hiff.1 k),decide_eq_false q];rfl)
  rw[if_pos h,Z7.f_eq,Option.bind_some,hcount', Option.bind_some,hc', Option.bind_some]
  show some (decide _)=_
  congr 1
  by_cases q:MapP m m' u w c
  ·
   rw[B_pos q,List.any_eq_false.2 fun x hx=>by
    obtain⟨i,hi,rfl⟩:=List.mem_map.1 hx
    have hi:=List.mem_range.1 hi
    rw[decide_eq_true (q.2 (i:Int) (by omega) (by omega))];decide]
   rfl
  ·
   rw[B_neg q,List.any_eq_true.2 (by
    apply Classical.byContradiction
    intro hno
    refine q ⟨h,fun i i0 i1=>Classical.byContradiction fun k=>hno ⟨i,List.mem_map.2 ⟨i.toNat,List.mem_range.2 (by omega),by omega⟩,?_⟩⟩
    rw[decide_eq_false k];rfl)]
   rfl)
 have l1:∀x:Int,([x]:List Int).length=1:=fun _=>rfl
 have main:=up M (fun c=>Zy.l0 (c:Int) m u m' w (kept c fun c=>B (MapP m m' u w c))) (fun c hc=>by
  have kl:=Zeu c fun c=>B (MapP m m' u w c)
  rw[ZdM,Zy.l0_eq,if_pos (by omega),hS c hc,Option.bind_some,l1,wn (j:=c) (by omega)]
  by_cases q:MapP m m' u w c
  ·
   rw[B_pos q,if_pos rfl,if_pos (by omega),if_pos rfl]
  ·
   rw[B_neg q,if_neg (by decide),if_neg (by decide),List.append_nil])
 have k0:kept 0 (fun c=>B (MapP m m' u w c))=[]:=rfl
 simp only[Int.natCast_zero,k0]at main
 have h0:MapP m m' u w 0:=⟨by simp,fun i _ _=>by simp⟩
 have hkl:=Zeu M fun c=>B (MapP m m' u w c)
 have hhead:∀n:Nat,kept (n+1) (fun c=>B (MapP m m' u w c))=0 :: (kept (n+1) (fun c=>B (MapP m m' u w c))).drop 1:=fun n=>by
  induction n with
  | zero=>rw[ZdM,k0,B_pos h0];rfl
  | succ n ih =>
   rw[ZdM,ih]
   rfl
 obtain⟨M', hM'⟩:∃M', M=M' + 1:=⟨M - 1,by omega⟩
 have hh:=hhead M'
 rw[←hM']at hh
 refine⟨kept M fun c=>B (MapP m m' u w c),?_,?_,by rw[hh];simp,by omega,by rw[hh];rfl⟩
 ·
  rw[Zag.f_eq,cI,Option.bind_some,if_pos rfl,hcount,Option.bind_some,hdel]
  rfl
 ·
  rw[Zy.f_eq,cS,Option.bind_some,if_pos rfl,main,Zy.l0_eq,if_neg (by omega)]
def evN:Nat→Nat→Nat→Nat
 | 0,_,_=>0
 | f+1,p,A=>if A%p=0 then evN f p (A / p)+1 else 0
theorem expo_ {p:Nat} (p2:2≤p) (p11:p≤11):∀(f A k:Nat),1≤A→A < 2 ^ f→A≤100000→k+f≤100000→Zak.l0 (p:Int) (A:Int) (k:Int)=some ((k+evN f p A:Nat):Int):=by
 intro f
 induction f with
 | zero=>intro A k h1 h2;simp at h2;omega
 | succ f ih =>
  intro A k h1 h2 h3 h4
  have hm:(A:Int)%(p:Int)=((A%p:Nat):Int):=(Int.natCast_emod A p).symm
  have hd:(A:Int) / (p:Int)=((A / p:Nat):Int):=(Int.natCast_ediv A p).symm
  rw[Zak.l0_eq,if_neg (by omega),Zbz (by omega),hm]
  by_cases q:A%p=0
  ·
   have hdm:=Nat.div_add_mod A p
   have hpos:1≤A / p:=by
    rcases Nat.eq_zero_or_pos (A / p)with w|w
    ·
     rw[w,q]at hdm;omega
    ·
     exact w
   have hlt:A / p < 2 ^ f:=by
    rw[Nat.pow_succ]at h2
    exact Nat.div_lt_of_lt_mul (Nat.lt_of_lt_of_le h2 (by rw[Nat.mul_comm];exact Nat.mul_le_mul_right _ p2))
   have hle:=Nat.div_le_self A p
   have:=ih (A / p) (k+1) hpos hlt (by omega) (by omega)
   rw[if_pos (by omega),if_neg (by omega),Zeb (by omega),hd,w64 (x:=((A / p:Nat):Int)) (by omega) (by omega),wn (j:=k) (by omega),this]
   show _=some ((k+(if A%p=0 then evN f p (A / p)+1 else 0):Nat):Int)
   rw[if_pos q,show k+1+evN f p (A / p)=k+(evN f p (A / p)+1)by omega]
  ·
   rw[if_neg (by omega)]
   show _=some ((k+(if A%p=0 then evN f p (A / p)+1 else 0):Nat):Int)
   rw[if_neg q]
   rfl
def prs:List Nat:=[2,3,5,7,11]
def ppn (A:Nat) (k:Nat):Nat:=((prs.take k).map fun p=>p ^ evN 8 p A).foldl (· * ·) 1
def chkP:Bool:=(List.range 13).all fun A=>decide (A=0) || (decide (ppn A 5=A) && (List.range 5).all fun k=>decide (ppn A (k+1)=ppn A k*(prs.getD k 0) ^ evN 8 (prs.getD k 0) A) && decide (ppn A (k+1)≤12) && decide (1≤ppn A k) && decide (evN 8 (prs.getD k 0) 1=0) && decide (evN 8 (prs.getD k 0) A≤8) && decide (2≤prs.getD k 0) && decide (prs.getD k 0≤11))
theorem ZkC:chkP=true:=by decide +kernel
theorem ZkR (A:Nat) (h12:A≤12) (h1:1≤A):ppn A 5=A∧∀k:Nat,k < 5→ppn A (k+1)=ppn A k*(prs.getD k 0) ^ evN 8 (prs.getD k 0) A∧ppn A (k+1)≤12∧1≤ppn A k∧evN 8 (prs.getD k 0) 1=0∧evN 8 (prs.getD k 0) A≤8∧2≤prs.getD k 0∧prs.getD k 0≤11:=by
 have h:=List.all_eq_true.1 ZkC A (List.mem_range.2 (by omega))
 simp only[Bool.or_eq_true,Bool.and_eq_true,decide_eq_true_eq,List.all_eq_true,List.mem_range]at h
 rcases h with h|⟨h2,h3⟩
 ·
  omega
 ·
  refine⟨h2,fun k hk => ?_⟩
  obtain⟨⟨⟨⟨⟨⟨a,b⟩,c⟩,d⟩,e⟩,f⟩,g⟩:=h3 k hk
  exact⟨a,b,c,d,e,f,g⟩
theorem ZkX {m m' : Int} {p p' : List (List Int)} {A:Nat} (A1:1≤A) (A12:A≤12) (h1:ZR.f m p=some ([(A:Int)],m,p)) (h2:ZR.f m' p' = some ([1],m', p')):Zh.f m p m' p' = some ((A:Int),m,p,m', p'):=by
 obtain⟨f1,f2⟩:=ZkR A A12 A1
 have lp:([2,3,5,7,11]:List Int).length=5:=rfl
 have l1:([(A:Int)]:List Int).length=1:=rfl
 have l2:([1]:List Int).length=1:=rfl
 have r1:rd [(A:Int)] 0=(A:Int):=rfl
 have r2:rd [1] 0=1:=rfl
 have prs_rd:∀k:Nat,k < 5→rd ([2,3,5,7,11]:List Int) (k:Int)=((prs.getD k 0:Nat):Int):=fun k hk=>by
  have:k=0∨k=1∨k=2∨k=3∨k=4:=by omega
  rcases this with rfl|rfl|rfl|rfl|rfl <;> rfl
 have main:=up 5 (fun k=>Zh.l0 ((ppn A k:Nat):Int) 5 (k:Int) m m' p p' [(A:Int)] [1] [2,3,5,7,11]) (fun k hk=>by
  obtain⟨e1,e2,e3,e4,e5,e6,e7⟩:=f2 k hk
  obtain⟨P,hP⟩:∃P,P=prs.getD k 0:=⟨_,rfl⟩
  obtain⟨E,hE⟩:∃E,E=evN 8 P A:=⟨_,rfl⟩
  rw[←hP]at e1 e4 e5 e6 e7
  rw[←hE]at e1 e5
  have x1:=expo_ e6 e7 8 A 0 A1 (by omega) (by omega) (by omega)
  have x2:=expo_ e6 e7 8 1 0 (by omega) (by omega) (by omega) (by omega)
  rw[←hE,Nat.zero_add]at x1
  rw[e4,Nat.zero_add]at x2
  have x1:Zak.f (P:Int) (A:Int)=some ((E:Nat):Int):=by rw[Zak.f_eq];exact x1
  have x2:Zak.f (P:Int) 1=some 0:=by rw[Zak.f_eq];exact x2
  have inner:=up E (fun j=>Zh.l2 ((ppn A k*P ^ j:Nat):Int) (P:Int) 5 (k:Int) (E:Int) (j:Int) m m' p p' [(A:Int)] [1] [2,3,5,7,11]) (fun j hj=>by
   have hle:ppn A k*P ^ (j+1)≤ppn A k*P ^ E:=Nat.mul_le_mul_left _ (Nat.pow_le_pow_right (by omega) (by omega))
   have hs:ppn A k*P ^ (j+1)=ppn A k*P ^ j*P:=by rw[Nat.pow_succ,Nat.mul_assoc]
   have hw:wrapI (((ppn A k*P ^ j:Nat):Int)*(P:Int))=((ppn A k*P ^ (j+1):Nat):Int):=by
    rw[←Int.natCast_mul,←hs]
    exact w64 (by omega) (by omega)
   rw[Zh.l2_eq,if_pos (by omega),hw,wn (j:=j) (by omega)])
  simp only[Nat.pow_zero,Nat.mul_one,Int.natCast_zero]at inner
  have w1:wrapI (0+1)=1:=w64 (by omega) (by omega)
  have wE:wrapI (0+wrapI ((E:Int) - 0))=(E:Int):=by rw[w64 (x:=(E:Int) - 0) (by omega) (by omega),w64 (by omega) (by omega)];omega
  rw[Zh.l0_eq,lp,if_pos (by omega),if_pos (by omega),if_pos (by omega),if_pos (by omega),if_pos (by omega),prs_rd k hk,←hP,Zh.l1_eq,l1,l2,if_pos (by omega),if_pos (by omega),if_pos (by omega),if_pos (by omega),if_pos (by omega),r1,x1,Option.bind_some,if_pos (by omega),if_pos (by omega),if_pos (by omega),if_pos (by omega),r2,x2,Option.bind_some,w1,wE,Zh.l1_eq,if_neg (by omega),inner,Zh.l2_eq,if_neg (by omega),←e1,wn (j:=k) (by omega)])
 have p0:ppn A 0=1:=rfl
 simp only[p0,Int.natCast_zero,f1]at main
 rw[Zh.f_eq,h1,Option.bind_some,h2,Option.bind_some]
 dsimp only
 rw[lp]
 refine Eq.trans main ?_
 rw[Zh.l0_eq,if_neg (by omega)]
theorem ZkZ {g:List (List Int)} {v:List Int}:At g v []=rd v 0:=by
 unfold At
 rw[ZbG (show Zck []from fun j j0 j1=>by simp at j1;omega)]
 rfl
theorem Zky {g:List (List Int)} {u v:List Int} {z:Int}:Bd g u v [z] 0=(rd u z - 1)*rd v 0:=by
 have e0:rd [z] 0=z:=rfl
 simp only[Bd,bsum,List.drop_succ_cons,List.drop_zero,List.take_zero,e0,ZkZ]
 rw[Int.sub_mul]
 omega
theorem ZjB {g:List (List Int)} (hg:Grp g) {m:Int} {u:List Int} (hm:Mdl g m u) (x:Int):coM g m u 0 (V [x])↔∀w∈u,m∣(w - 1)*x:=by
 have m2:=hm.m2;have hl:=hm.len;have n1:=hg.n1
 obtain⟨b1,b2⟩:=nA_bd hg (e:=1) (by omega)
 have hN1:(nB g 1:Int)=g.length - 1:=by rw[b2];show((g.length:Int) - 1) ^ 1=_;rw[Int.pow_succ,Int.pow_zero];omega
 have hp:∀i:Nat,V (List.replicate (nB g 1) 0++[x]) i=pad (nB g 1) (V [x]) i:=fun i=>by
  unfold pad
  by_cases k:i < nB g 1
  ·
   rw[if_pos k]
   show rd (List.replicate (nB g 1) 0++[x]) (i:Int)=0
   rw[ZbP (by rw[List.length_replicate];exact k),Zcx]
  ·
   rw[if_neg k]
   show rd (List.replicate (nB g 1) 0++[x]) (i:Int)=_
   rw[ZbK (by rw[List.length_replicate];omega),List.length_replicate]
   rfl
 have h1:coM g m u 0 (V [x])↔allM g m u 0 (V (List.replicate (nB g 1) 0++[x])):=⟨fun q => .alike (show Sp m _ _ _ from q) fun i _=>ZbA (hp i).symm,fun q => .alike (show Sp m _ _ _ from q) fun i _=>ZbA (hp i)⟩
 have hz1:nB g (0+1)=nB g 1:=rfl
 rw[h1,Zjv hg m2 (e:=0) (by omega) List.length_replicate]
 have hbd:∀i:Nat,i < nB g 1→bdV g u [x] 0 i=(rd u ((i+1:Nat):Int) - 1)*x:=fun i hi=>by
  have e:lst ((g.length:Int) - 1) (0+1) (i:Int)=[((i+1:Nat):Int)]:=by
   show []++[(i:Int)%((g.length:Int) - 1)+1]=_
   rw[Int.emod_eq_of_lt (by omega) (by omega)]
   rfl
  unfold bdV
  rw[e,Zky]
  rfl
 constructor
 ·
  intro h w hw
  obtain⟨j,hj,e⟩:=List.mem_iff_getElem.1 hw
  have e:rd u (j:Int)=w:=by rw[rd_get hj];exact e
  by_cases q:j=0
  ·
   rw[q]at e
   have:=hm.one hg
   rw[←e]
   show m∣(rd u 0 - 1)*x
   rw[this]
   exact⟨0,by simp⟩
  ·
   have:=h (j - 1) (by omega)
   rw[hbd (j - 1) (by omega),Zcx,show j - 1+1=j by omega,e,Int.zero_sub]at this
   exact Int.dvd_neg.1 this
 ·
  intro h i hi
  rw[hbd i hi,Zcx,Int.zero_sub]
  exact Int.dvd_neg.2 (h _ (Zce (by omega) (by omega)))
theorem ZhY {g:List (List Int)} (hg:Grp g) {m:Int} {u:List Int} (hm:Mdl g m u) {M D:Nat} (hM:(M:Int)=m) (D1:1≤D) (hmod:M%D=0) (hfix:∀x:Nat,x < M→((∀w∈u,m∣(w - 1)*(x:Int))↔(x:Int)%((M / D:Nat):Int)=0)):ZF.f g m u 0=some ((D:Int),0):=by
 have m2:=hm.m2;have m12:=hm.m12;have n8:=hg.n8;have hl:=hm.len
 obtain⟨hgl,hgr⟩:=ZeI hg
 have hA:=ZeA g hgl hgr m u (Zbo (by omega))
 rw[B_pos ⟨hg,hm⟩]at hA
 have hD:=ZjP 0
 rw[B_pos (by omega)]at hD
 have hR:=ZiK hg (k:=0) (by omega)
 have hN0:nB g 0=1:=by
  obtain⟨_,b2⟩:=nA_bd hg (e:=0) (by omega)
  have:cells g ((0:Nat):Int)=1:=by show((g.length:Int) - 1) ^ 0=1;exact Int.pow_zero _
  omega
 rw[hN0,B_pos (by omega)]at hR
 have hR:ZaX.f g 0=some true:=hR
 obtain⟨q,q1,q2⟩:=Zis hg hm (n:=0) (by omega)
 obtain⟨p,p1,p2⟩:=ZhO hg hm (n:=0) (by omega)
 have p2:=p2.lead (by omega)
 rw[hN0]at q2 p2
 have q1:ZaW.f g m u 0=some (m,q):=q1
 have p1:Z9.f g m u 0=some (m,p):=p1
 obtain⟨t,ht⟩:=Nat.dvd_of_mod_eq_zero hmod
 have htd:M / D=t:=by rw[ht,Nat.mul_div_cancel_left _ (by omega)]
 have t1:1≤t:=by
  rcases Nat.eq_zero_or_pos t with w|w
  ·
   rw[w,Nat.mul_zero]at ht;omega
  ·
   exact w
 have tM:t≤M:=by rw[ht];exact Nat.le_mul_of_pos_left t (by omega)
 have DM:D≤M:=by rw[ht];exact Nat.le_mul_of_pos_right D (by omega)
 rw[htd]at hfix
 have hdp:dv m p 0=m:=by
  unfold dv
  by_cases hr:row p ((0:Nat):Int)=[]
  ·
   rw[if_pos hr]
  ·
   exfalso
   have h1:=p2.own 0 (by omega) hr
   have h2:=Sp.dvd (d:=m) (Int.dvd_refl m) (i:=0) (by omega) (fun g' (h:False)=>h.elim) h1
   have h3:=p2.tab.prow (by omega) hr
   have h4:=h3.pos
   have h5:=h3.lt
   have:=Int.le_of_dvd h4 h2
   omega
 have hco:∀x:Nat,x < M→(coM g m u 0 (V [(x:Int)])↔(x:Int)%(t:Int)=0):=fun x hx=>(ZjB hg hm (x:Int)).trans (hfix x hx)
 have hdq:dv m q 0=(t:Int):=by
  unfold dv
  by_cases hr:row q ((0:Nat):Int)=[]
  ·
   rw[if_pos hr]
   by_cases h:t < M
   ·
    exfalso
    have h1:=q2.lead _ ((hco t h).2 (by simp)) 0 (by omega) (fun i hi=>by omega)
    rw[show dv m q 0=m from if_pos hr]at h1
    have:=Int.le_of_dvd (show(0:Int) < V [(t:Int)] 0 from(show(0:Int) < (t:Int)by omega)) h1
    have e:V [(t:Int)] 0=(t:Int):=rfl
    omega
   ·
    omega
  ·
   rw[if_neg hr]
   have h3:=q2.tab.prow (by omega) hr
   have h4:=h3.pos
   have h5:=h3.lt
   have hlen:=h3.len
   have h6:=q2.own 0 (by omega) hr
   obtain⟨d,hd⟩:=Int.eq_ofNat_of_zero_le (show 0≤rd (row q ((0:Nat):Int)) ((0:Nat):Int)by omega)
   have hrow:row q ((0:Nat):Int)=[(d:Int)]:=by
    cases hrr:row q ((0:Nat):Int)with
    | nil=>exact absurd hrr hr
    | cons a r =>
     rw[hrr]at hlen hd
     cases r with
     | nil =>
      have:a=(d:Int):=hd
      rw[this]
     | cons b r=>simp at hlen
   rw[hrow]at h6
   have h7:=(hco d (by omega)).1 h6
   have h8:(t:Int)∣(d:Int):=Int.dvd_of_emod_eq_zero h7
   have h9:=Int.le_of_dvd (by omega) h8
   have h10:=q2.lead _ ((hco t (by omega)).2 (by simp)) 0 (by omega) (fun i hi=>by omega)
   rw[show dv m q 0=rd (row q ((0:Nat):Int)) ((0:Nat):Int)from if_neg hr,hd]at h10
   have h10:(d:Int)∣(t:Int):=h10
   have h11:=Int.le_of_dvd (by omega) h10
   omega
 have s1:=Zkp m2 m12 (W:=1) (by omega) q2.tab
 have s2:=Zkp m2 m12 (W:=1) (by omega) p2.tab
 have e1:Zjk m q 1=[(D:Int)]:=by
  show [m / dv m q 0]=_
  rw[hdq,←hM,ht,Int.natCast_mul,Int.mul_ediv_cancel _ (by omega)]
 have e2:Zjk m p 1=[1]:=by
  show [m / dv m p 0]=_
  rw[hdp,Int.ediv_self (by omega)]
 rw[e1]at s1
 rw[e2]at s2
 rw[ZF.f_eq,Za4.f_eq,ZaR.f_eq,hA,Option.bind_some,if_pos rfl,hD,Option.bind_some,if_pos rfl,Option.bind_some,if_pos rfl,hR,Option.bind_some,if_pos rfl,Option.bind_some,if_pos rfl,q1]
 dsimp only[Option.bind_some]
 rw[p1]
 dsimp only[Option.bind_some]
 rw[ZkX D1 (by omega) s1 s2]
 rfl
end Go.Proofs.YthmcpmnhdbeahaaGreat.V
set_option maxRecDepth 100000
namespace Go.Proofs.YthmcpmnhdbeahaaGreat.P
open Go Go.RowKit Go.Proofs.YthmcpmnhdbeahaaGreat.D
end Go.Proofs.YthmcpmnhdbeahaaGreat.P
namespace Go.Proofs.YthmcpmnhdbeahaaGreat.P
open Go Go.RowKit Go.Proofs.YthmcpmnhdbeahaaGreat.D
end Go.Proofs.YthmcpmnhdbeahaaGreat.P
namespace Go.Proofs.YthmcpmnhdbeahaaGreat.P
open Go Go.RowKit Go.Proofs.YthmcpmnhdbeahaaGreat.D
end Go.Proofs.YthmcpmnhdbeahaaGreat.P
namespace Go.Proofs.YthmcpmnhdbeahaaGreat.P
open Go Go.RowKit Go.Proofs.YthmcpmnhdbeahaaGreat.D
end Go.Proofs.YthmcpmnhdbeahaaGreat.P
namespace Go.Proofs.YthmcpmnhdbeahaaGreat.P
open Go Go.RowKit Go.Proofs.YthmcpmnhdbeahaaGreat.D
end Go.Proofs.YthmcpmnhdbeahaaGreat.P
namespace Go.Proofs.YthmcpmnhdbeahaaGreat.P
open Go Go.RowKit Go.Proofs.YthmcpmnhdbeahaaGreat.D
end Go.Proofs.YthmcpmnhdbeahaaGreat.P
namespace Go.Proofs.YthmcpmnhdbeahaaGreat.P
open Go Go.RowKit Go.Proofs.YthmcpmnhdbeahaaGreat.D
end Go.Proofs.YthmcpmnhdbeahaaGreat.P
namespace Go.Proofs.YthmcpmnhdbeahaaGreat.P
open Go Go.RowKit Go.Proofs.YthmcpmnhdbeahaaGreat.D
end Go.Proofs.YthmcpmnhdbeahaaGreat.P
namespace Go.Proofs.YthmcpmnhdbeahaaGreat.P
open Go Go.RowKit Go.Proofs.YthmcpmnhdbeahaaGreat.D
end Go.Proofs.YthmcpmnhdbeahaaGreat.P
namespace Go.Proofs.YthmcpmnhdbeahaaGreat.P
open Go Go.RowKit Go.Proofs.YthmcpmnhdbeahaaGreat.D
end Go.Proofs.YthmcpmnhdbeahaaGreat.P
namespace Go.Proofs.YthmcpmnhdbeahaaGreat.P
open Go Go.RowKit Go.Proofs.YthmcpmnhdbeahaaGreat.D
end Go.Proofs.YthmcpmnhdbeahaaGreat.P
namespace Go.Proofs.YthmcpmnhdbeahaaGreat.P
open Go Go.RowKit Go.Proofs.YthmcpmnhdbeahaaGreat.D
end Go.Proofs.YthmcpmnhdbeahaaGreat.P
namespace Go.Proofs.YthmcpmnhdbeahaaGreat.P
open Go Go.RowKit Go.Proofs.YthmcpmnhdbeahaaGreat.D
end Go.Proofs.YthmcpmnhdbeahaaGreat.P
namespace Go.Proofs.YthmcpmnhdbeahaaGreat.P
open Go Go.RowKit Go.Proofs.YthmcpmnhdbeahaaGreat.D
end Go.Proofs.YthmcpmnhdbeahaaGreat.P
namespace Go.Proofs.YthmcpmnhdbeahaaGreat.P
open Go Go.RowKit Go.Proofs.YthmcpmnhdbeahaaGreat.D
end Go.Proofs.YthmcpmnhdbeahaaGreat.P
namespace Go.Proofs.YthmcpmnhdbeahaaGreat.P
open Go Go.RowKit Go.Proofs.YthmcpmnhdbeahaaGreat.D
end Go.Proofs.YthmcpmnhdbeahaaGreat.P
namespace Go.Proofs.YthmcpmnhdbeahaaGreat.P
open Go Go.RowKit Go.Proofs.YthmcpmnhdbeahaaGreat.D
end Go.Proofs.YthmcpmnhdbeahaaGreat.P
namespace Go.Proofs.YthmcpmnhdbeahaaGreat.P
open Go Go.RowKit Go.Proofs.YthmcpmnhdbeahaaGreat.D
end Go.Proofs.YthmcpmnhdbeahaaGreat.P
namespace Go.Proofs.YthmcpmnhdbeahaaGreat.P
open Go Go.RowKit Go.Proofs.YthmcpmnhdbeahaaGreat.D
end Go.Proofs.YthmcpmnhdbeahaaGreat.P
namespace Go.Proofs.YthmcpmnhdbeahaaGreat.P
open Go Go.RowKit Go.Proofs.YthmcpmnhdbeahaaGreat.D
end Go.Proofs.YthmcpmnhdbeahaaGreat.P
namespace Go.Proofs.YthmcpmnhdbeahaaGreat.P
open Go Go.RowKit Go.Proofs.YthmcpmnhdbeahaaGreat.D
end Go.Proofs.YthmcpmnhdbeahaaGreat.P
namespace Go.Proofs.YthmcpmnhdbeahaaGreat.P
open Go Go.RowKit Go.Proofs.YthmcpmnhdbeahaaGreat.D
end Go.Proofs.YthmcpmnhdbeahaaGreat.P
namespace Go.Proofs.YthmcpmnhdbeahaaGreat.P
open Go Go.RowKit Go.Proofs.YthmcpmnhdbeahaaGreat.D
end Go.Proofs.YthmcpmnhdbeahaaGreat.P
namespace Go.Proofs.YthmcpmnhdbeahaaGreat.P
open Go Go.RowKit Go.Proofs.YthmcpmnhdbeahaaGreat.D
end Go.Proofs.YthmcpmnhdbeahaaGreat.P
namespace Go.Proofs.YthmcpmnhdbeahaaGreat.R
open Go Go.RowKit Go.Proofs.YthmcpmnhdbeahaaGreat.D
theorem ti3:TiOk Tryz.prog 3 ⟨.int .i64,1,8,[.int .i64 0],(.int .i64),true⟩:=tiMk (show Tryz.prog.underlying 3=some (.int .i64)by kernel_rfl) (by kernel_rfl) (by kernel_rfl) (by kernel_rfl)
theorem ti4:TiOk Tryz.prog 4 ⟨.bool,1,1,[fls],.bool,true⟩:=tiMk (show Tryz.prog.underlying 4=some .bool by kernel_rfl) (by kernel_rfl) (by kernel_rfl) (by kernel_rfl)
theorem ti24:TiOk Tryz.prog 24 ⟨.sl 27,1,24,[.nil],(.sl 27 .raw),true⟩:=tiMk (show Tryz.prog.underlying 24=some (.slice 27)by kernel_rfl) (by kernel_rfl) (by kernel_rfl) (by kernel_rfl)
theorem ti27:TiOk Tryz.prog 27 ⟨.sl 2,1,24,[.nil],.raw,true⟩:=tiMk (show Tryz.prog.underlying 27=some (.slice 2)by kernel_rfl) (by kernel_rfl) (by kernel_rfl) (by kernel_rfl)
theorem ti137:TiOk Tryz.prog 137 ⟨.int .u64,1,8,[.int .u64 0],(.int .u64),true⟩:=tiMk (show Tryz.prog.underlying 137=some (.int .u64)by kernel_rfl) (by kernel_rfl) (by kernel_rfl) (by kernel_rfl)
theorem ti141:TiOk Tryz.prog 141 ⟨.int .u64,1,8,[.int .u64 0],(.int .u64),true⟩:=tiMk (show Tryz.prog.underlying 141=some (.int .u64)by kernel_rfl) (by kernel_rfl) (by kernel_rfl) (by kernel_rfl)
theorem ti173:TiOk Tryz.prog 173 ⟨.int .i64,1,8,[.int .i64 0],(.int .i64),true⟩:=tiMk (show Tryz.prog.underlying 173=some (.int .i64)by kernel_rfl) (by kernel_rfl) (by kernel_rfl) (by kernel_rfl)
theorem ti207:TiOk Tryz.prog 207 ⟨.int .u64,1,8,[.int .u64 0],(.int .u64),true⟩:=tiMk (show Tryz.prog.underlying 207=some (.int .u64)by kernel_rfl) (by kernel_rfl) (by kernel_rfl) (by kernel_rfl)
noncomputable def TT:List (Nat×TI):=[(3,⟨.int .i64,1,8,[.int .i64 0],(.int .i64),true⟩),(4,⟨.bool,1,1,[fls],.bool,true⟩),(24,⟨.sl 27,1,24,[.nil],(.sl 27 .raw),true⟩),(27,⟨.sl 2,1,24,[.nil],.raw,true⟩),(137,⟨.int .u64,1,8,[.int .u64 0],(.int .u64),true⟩),(141,⟨.int .u64,1,8,[.int .u64 0],(.int .u64),true⟩),(173,⟨.int .i64,1,8,[.int .i64 0],(.int .i64),true⟩),(207,⟨.int .u64,1,8,[.int .u64 0],(.int .u64),true⟩)]
theorem ttOk:TtOk Tryz.prog TT:=(ZbI ti3 (ZbI ti4 (ZbI ti24 (ZbI ti27 (ZbI ti137 (ZbI ti141 (ZbI ti173 (ZbI ti207 ttNil))))))))
theorem fnV (f:D.Fn) (E:Env) {R:Type} (enc:lsd (flats f.outs)×lsd (ios f.ins)→R) {g:FuncId} {fn:Func} {dec:R→lsd (flats f.outs)×lsd (ios f.ins)} (hE:EnvOk Tryz.prog E) (h:Tryz.prog.funcs[g]? = some fn) (h1:fn.body=some f.body:=by kernel_rfl)
  (h2 : (fn.name == "runtime.NumGoroutine") = false := by kernel_rfl)
  (h3:fn.results.toList=f.res:=by kernel_rfl) (h4:fn.ntmps=E.n:=by kernel_rfl) (h5:f.ins.length≤E.n:=by decide) (h6:roOk f.ins=true:=by kernel_rfl) (h7:(ZbH f.ins 0).all (fun T=>Nat.blt T E.pin)=true:=by kernel_rfl) (h8:∀y,dec (enc y)=y:=by exact fun _=>rfl):Valid Tryz.prog g ⟨f.ins,f.outs,R,denF E f enc,dec⟩:=ZfH hE (Checked.mixed Tryz.checked) ⟨h,h1,h2,h3,h4,h5,h6,h7⟩ h8
end Go.Proofs.YthmcpmnhdbeahaaGreat.R
