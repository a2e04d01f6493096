/- What the proof of the law InvariantsOf stands on, part 8: words, each Go function's Lean function, and that the Go code comes to its answers; no condition. (Packed by wip/myprint/pack.py out of what the kit's printer wrote, its words among it, partly by our patches of it, and out of texts of this session.) -/
import Derived.Test.YtdamfbighdkcbaaGreatKInvariantsOf3
import Derived.Test.YtdamfbighdkcbaaGreatKInvariantsOf4
import Derived.Test.YtdamfbighdkcbaaGreatKInvariantsOf5
import Derived.Test.YtdamfbighdkcbaaGreatKInvariantsOf7
set_option linter.unusedVariables false
set_option linter.unusedSimpArgs false
set_option maxHeartbeats 2000000
set_option maxRecDepth 20000
namespace Go.Proofs.YtdamfbighdkcbaaGreat.V
open Go.RowKit Go.Proofs.YtdamfbighdkcbaaGreat.D Go.Proofs.YtdamfbighdkcbaaGreat.P
theorem ModW {a m:Int} (h0 : -4000000000000000000≤a) (h1:a≤4000000000000000000) (m0:0 < m) (m1:m≤1000000):ZaJ.f a m=some (a%m):=by
 rw[ZaJ.f_eq]
 have t0:=Int.tmod_lt_of_pos a m0
 have t1 : -m < Int.tmod a m:=Int.lt_tmod_of_pos a m0
 have hq:=Int.mul_tdiv_add_tmod a m
 have h5:(m*a.tdiv m+a.tmod m)%m=a.tmod m%m:=by rw[Int.add_comm,Int.add_mul_emod_self_left]
 rw[hq]at h5
 rw[w64 (by omega) (by omega),Int.tmod_eq_emod_of_nonneg (show 0≤Int.tmod a m+m by omega),Int.add_emod_right,←h5]
 ((with_reducible repeat (first|refine Zl (by first|assumption|omega|rfl|exact B_pos (by omega)) ?_|refine Zk (by first|assumption|omega|decide|exact B_not (by omega)) ?_|refine Ze (by first|assumption) ?_|dsimp only));first|done|(with_reducible rfl)|simp (disch:=omega) only[w64]|(show False;done))
def mix (m x:Int) (a:List Int) (y:Int) (b:List Int):List Int:=(List.range a.length).map fun(i:Nat)=>(x*rd a (i:Int)+y*rd b (i:Int))%m
theorem Za4 (m x:Int) (a:List Int) (y:Int) (b:List Int):(mix m x a y b).length=a.length:=by simp[mix]
theorem Zbw {m x:Int} {a:List Int} {y:Int} {b:List Int} {i:Nat} (h:i < a.length):rd (mix m x a y b) (i:Int)=(x*rd a (i:Int)+y*rd b (i:Int))%m:=by
 rw[Zbi (by rw[Za4];exact h)]
 simp[mix]
theorem Zb2 {m x:Int} {a:List Int} {y:Int} {b:List Int} (m0:0 < m):AllIn m (mix m x a y b):=by
 refine Zby fun z hz => ?_
 obtain⟨i,_,rfl⟩:=List.mem_map.1 hz
 exact⟨Int.emod_nonneg _ (by omega),Int.emod_lt_of_pos _ m0⟩
theorem ZbC {m x:Int} {a:List Int} {y:Int} {b:List Int} {i:Nat} (h:i < a.length):m∣x*rd a (i:Int)+y*rd b (i:Int) - rd (mix m x a y b) (i:Int):=by
 rw[Zbw h]
 exact Int.dvd_self_sub_emod
theorem Zdl {x a B m:Int} (x0 : -B≤x) (x1:x≤B) (a0:0≤a) (a1:a < m) (m1:m≤12) (B0:0≤B) : -(12*B)≤x*a∧x*a≤12*B:=by
 have h1:x*a≤B*a:=Int.mul_le_mul_of_nonneg_right x1 a0
 have h2:(-B)*a≤x*a:=Int.mul_le_mul_of_nonneg_right x0 a0
 have h3:B*a≤B*12:=Int.mul_le_mul_of_nonneg_left (by omega) B0
 rw[Int.neg_mul]at h2
 constructor <;> omega
theorem ZgK {xs ys:List Int} {j:Nat} (hl:ys.length=xs.length) (hj:j < xs.length) {z:Int} (hz:z=rd ys (j:Int)):(ys.take j++xs.drop j).set j z=ys.take (j+1)++xs.drop (j+1):=by
 subst hz
 rw[Zbi (by omega)]
 apply List.ext_getElem
 ·
  simp;omega
 ·
  intro i h1 h2
  rw[List.getElem_set]
  by_cases e:j=i
  ·
   subst e
   rw[if_pos rfl,List.getElem_append_left (by simp;omega)]
   simp
  ·
   rw[if_neg e]
   by_cases e2:i < j
   ·
    rw[List.getElem_append_left (by simp;omega),List.getElem_append_left (by simp;omega)]
    simp
   ·
    have:(List.take j ys).length=j:=by simp;omega
    have:(List.take (j+1) ys).length=j+1:=by simp;omega
    rw[List.getElem_append_right (by omega),List.getElem_append_right (by omega)]
    simp only[List.getElem_drop]
    congr 1
    omega
theorem combined {m:Int} (m2:2≤m) (m12:m≤12) {p:List (List Int)} {x y:Int} {a b:List Int} (ha:AllIn m a) (hb:AllIn m b) (hl:b.length=a.length) (hW:a.length≤1000000) (x0 : -100000000000000≤x) (x1:x≤100000000000000) (y0 : -100000000000000≤y) (y1:y≤100000000000000) :
  Zu.f m p x a y b=some (mix m x a y b):=by
 have hz:(List.replicate a.length (0:Int)).length=a.length:=List.length_replicate
 have hml:=Za4 m x a y b
 have loop:=up a.length (fun j=>Zu.l0 x y b a (a.length:Int) (j:Int) m p ((mix m x a y b).take j++(List.replicate a.length (0:Int)).drop j)) (fun j hj=>by
  obtain⟨a0,a1⟩:=ha j (by omega) (by omega)
  obtain⟨b0,b1⟩:=hb j (by omega) (by omega)
  have p1:=Zdl x0 x1 a0 a1 m12 (by omega)
  have p2:=Zdl y0 y1 b0 b1 m12 (by omega)
  have t0:=Int.tmod_lt_of_pos (x*rd a (j:Int)+y*rd b (j:Int)) (show 0 < m by omega)
  have t1 : -m < Int.tmod (x*rd a (j:Int)+y*rd b (j:Int)) m:=Int.lt_tmod_of_pos _ (by omega)
  have hq:=Int.mul_tdiv_add_tmod (x*rd a (j:Int)+y*rd b (j:Int)) m
  have h5:(m*(x*rd a (j:Int)+y*rd b (j:Int)).tdiv m+(x*rd a (j:Int)+y*rd b (j:Int)).tmod m)%m=(x*rd a (j:Int)+y*rd b (j:Int)).tmod m%m:=by rw[Int.add_comm,Int.add_mul_emod_self_left]
  rw[hq]at h5
  have hv:(wrapI ((wrapI (wrapI (x*rd a (j:Int))+wrapI (y*rd b (j:Int)))).tmod m+m)).tmod m=rd (mix m x a y b) (j:Int):=by
   rw[w64 (x:=x*rd a (j:Int)) (by omega) (by omega),w64 (x:=y*rd b (j:Int)) (by omega) (by omega),w64 (x:=x*rd a (j:Int)+y*rd b (j:Int)) (by omega) (by omega),w64 (by omega) (by omega),Zbw hj,Int.tmod_eq_emod_of_nonneg (by omega),Int.add_emod_right,←h5]
  have hs:=ZgK (xs:=List.replicate a.length (0:Int)) (ys:=mix m x a y b) (by omega) (by omega) (j:=j) hv
  have hll:(((mix m x a y b).take j++(List.replicate a.length (0:Int)).drop j).length:Int)=a.length:=by simp;omega
  rw[Zu.l0_eq,wn (j:=j) (by omega),Int.toNat_natCast,hs,hll]
  ((with_reducible repeat (first|refine Zl (by first|assumption|omega|rfl|exact B_pos (by omega)) ?_|refine Zk (by first|assumption|omega|decide|exact B_not (by omega)) ?_|refine Ze (by first|assumption) ?_|dsimp only));first|done|(with_reducible rfl)|simp (disch:=omega) only[w64]|(show False;done)))
 rw[Zu.f_eq,Int.toNat_natCast]
 rw[List.take_zero,List.nil_append,List.drop_zero,Int.natCast_zero]at loop
 rw[loop,Zu.l0_eq,show(mix m x a y b).take a.length=mix m x a y b from List.take_of_length_le (by omega),List.drop_of_length_le (by simp),List.append_nil]
 ((with_reducible repeat (first|refine Zl (by first|assumption|omega|rfl|exact B_pos (by omega)) ?_|refine Zk (by first|assumption|omega|decide|exact B_not (by omega)) ?_|refine Ze (by first|assumption) ?_|dsimp only));first|done|(with_reducible rfl)|simp (disch:=omega) only[w64]|(show False;done))
theorem Mix_ {m:Int} (m2:2≤m) (m12:m≤12) {x y:Int} {a b:List Int} (ha:AllIn m a) (hb:AllIn m b) (hl:b.length=a.length) (hW:a.length≤1000000) (x0 : -100000000000000≤x) (x1:x≤100000000000000) (y0 : -100000000000000≤y) (y1:y≤100000000000000) :
  ZM.f a b x y m=some (mix m x a y b):=by
 have hz:(List.replicate a.length (0:Int)).length=a.length:=List.length_replicate
 have hml:=Za4 m x a y b
 have loop:=up a.length (fun j=>ZM.l0 a b x y m (j:Int) ((mix m x a y b).take j++(List.replicate a.length (0:Int)).drop j)) (fun j hj=>by
  obtain⟨a0,a1⟩:=ha j (by omega) (by omega)
  obtain⟨b0,b1⟩:=hb j (by omega) (by omega)
  have p1:=Zdl x0 x1 a0 a1 m12 (by omega)
  have p2:=Zdl y0 y1 b0 b1 m12 (by omega)
  have hM:=ModW (a:=x*rd a (j:Int)+y*rd b (j:Int)) (m:=m) (by omega) (by omega) (by omega) (by omega)
  have hs:=ZgK (xs:=List.replicate a.length (0:Int)) (ys:=mix m x a y b) (by omega) (by omega) (j:=j) (Zbw hj).symm
  have hll:(((mix m x a y b).take j++(List.replicate a.length (0:Int)).drop j).length:Int)=a.length:=by simp;omega
  rw[ZM.l0_eq,wn (j:=j) (by omega),w64 (x:=x*rd a (j:Int)) (by omega) (by omega),w64 (x:=y*rd b (j:Int)) (by omega) (by omega),w64 (by omega) (by omega),hM,Option.bind_some,Int.toNat_natCast,hs,hll]
  ((with_reducible repeat (first|refine Zl (by first|assumption|omega|rfl|exact B_pos (by omega)) ?_|refine Zk (by first|assumption|omega|decide|exact B_not (by omega)) ?_|refine Ze (by first|assumption) ?_|dsimp only));first|done|(with_reducible rfl)|simp (disch:=omega) only[w64]|(show False;done)))
 rw[ZM.f_eq,Int.toNat_natCast]
 rw[List.take_zero,List.nil_append,List.drop_zero,Int.natCast_zero]at loop
 rw[loop,ZM.l0_eq,show(mix m x a y b).take a.length=mix m x a y b from List.take_of_length_le (by omega),List.drop_of_length_le (by simp),List.append_nil]
 ((with_reducible repeat (first|refine Zl (by first|assumption|omega|rfl|exact B_pos (by omega)) ?_|refine Zk (by first|assumption|omega|decide|exact B_not (by omega)) ?_|refine Ze (by first|assumption) ?_|dsimp only));first|done|(with_reducible rfl)|simp (disch:=omega) only[w64]|(show False;done))
end Go.Proofs.YtdamfbighdkcbaaGreat.V
namespace Go.Proofs.YtdamfbighdkcbaaGreat.V
open Go.RowKit Go.Proofs.YtdamfbighdkcbaaGreat.D Go.Proofs.YtdamfbighdkcbaaGreat.P
theorem bez (a b:Nat):∃s t:Int,s*a+t*b=((Nat.gcd a b:Nat):Int):=by
 induction a,b using Nat.gcd.induction with
 | H0 n=>exact⟨0,1,by simp⟩
 | H1 a b ha ih =>
  obtain⟨s,t,h⟩:=ih
  refine⟨t - s*((b / a:Nat):Int),s,?_⟩
  rw[Nat.gcd_rec a b,←h]
  have h1:(b:Int)=(a:Int)*((b / a:Nat):Int)+((b%a:Nat):Int):=by exact_mod_cast (Nat.div_add_mod b a).symm
  rw[Int.sub_mul,Int.mul_assoc,Int.mul_comm ((b / a:Nat):Int) (a:Int)]
  have h2:s*(b:Int)=s*((a:Int)*((b / a:Nat):Int))+s*((b%a:Nat):Int):=by rw[←Int.mul_add,←h1]
  omega
theorem ZmV {m a b:Int} (m0:0 < m) (a0:0≤a) (b0:0≤b):∃x y:Int,(0≤x∧x < m)∧(0≤y∧y < m)∧m∣x*a+y*b - ((Int.gcd ((Int.gcd a b:Nat):Int) m:Nat):Int):=by
 obtain⟨A,rfl⟩:=Int.eq_ofNat_of_zero_le a0
 obtain⟨C,rfl⟩:=Int.eq_ofNat_of_zero_le b0
 obtain⟨M,rfl⟩:=Int.eq_ofNat_of_zero_le (Int.le_of_lt m0)
 obtain⟨s,t,h1⟩:=bez A C
 obtain⟨s', t', h2⟩:=bez (Nat.gcd A C) M
 refine⟨(s' * s)%M,(s' * t)%M,⟨Int.emod_nonneg _ (by omega),Int.emod_lt_of_pos _ m0⟩,⟨Int.emod_nonneg _ (by omega),Int.emod_lt_of_pos _ m0⟩,?_⟩
 show(M:Int)∣(s' * s)%M*A+(s' * t)%M*C - ((Nat.gcd (Nat.gcd A C) M:Nat):Int)
 have e1:(s' * s)%(M:Int)=s' * s - M*(s' * s / M):=by have:=Int.mul_ediv_add_emod (s' * s) M;omega
 have e2:(s' * t)%(M:Int)=s' * t - M*(s' * t / M):=by have:=Int.mul_ediv_add_emod (s' * t) M;omega
 rw[e1,e2]
 refine⟨-(s' * s / M*A) - (s' * t / M*C) - t', ?_⟩
 have h3:s' * (s*(A:Int)+t*(C:Int))=s' * ((Nat.gcd A C:Nat):Int):=by rw[h1]
 rw[Int.mul_add,←Int.mul_assoc,←Int.mul_assoc]at h3
 rw[Int.sub_mul,Int.sub_mul,Int.mul_sub,Int.mul_sub,Int.mul_neg,Int.mul_assoc (M:Int),Int.mul_assoc (M:Int),Int.mul_comm (M:Int) t']
 omega
theorem Zch {a m:Int}:Int.tmod a m=0↔m∣a:=⟨Int.dvd_of_tmod_eq_zero,Int.tmod_eq_zero_of_dvd⟩
theorem bezout {m:Int} (m2:2≤m) (m12:m≤12) {p:List (List Int)} {a b:Int} (a0:0≤a) (a1:a≤12) (b0:0≤b) (b1:b≤12) :
  ∃x y:Int,Zv.f m p a b=some (x,y,((Int.gcd ((Int.gcd a b:Nat):Int) m:Nat):Int))∧(0≤x∧x < m)∧(0≤y∧y < m)∧m∣x*a+y*b - ((Int.gcd ((Int.gcd a b:Nat):Int) m:Nat):Int):=by
 have hg1:=gcd_ a0 b0
 have hg2:=gcd_ (a:=((Int.gcd a b:Nat):Int)) (b:=m) (by omega) (by omega)
 have hd:0≤((Int.gcd ((Int.gcd a b:Nat):Int) m:Nat):Int)∧((Int.gcd ((Int.gcd a b:Nat):Int) m:Nat):Int)≤m:=by
  constructor
  ·
   omega
  ·
   exact Int.le_of_dvd (by omega) (Int.gcd_dvd_right ..)
 obtain⟨x0,y0,hx0,hy0,h0⟩:=ZmV (m:=m) (by omega) a0 b0
 rw[Zv.f_eq,hg1,Option.bind_some,hg2,Option.bind_some]
 generalize ((Int.gcd ((Int.gcd a b:Nat):Int) m:Nat):Int)=d at hd h0 ⊢
 have inner:∀(n:Nat) (x y:Int),0≤x→x < m→0≤y→y+n=m→(∃y', (0≤y' ∧ y' < m)∧m∣x*a+y' * b - d∧Zv.l1 a b d x m x m y m p=some (x,y', d))∨((∀y', y≤y' → y' < m→¬ m∣x*a+y' * b - d)∧Zv.l1 a b d x m x m y m p=Zv.l0 a b d m (x+1) m p):=by
  intro n
  induction n with
  | zero =>
   intro x y hx hx' hy hn
   refine .inr ⟨fun y' h1 h2=>by omega,?_⟩
   rw[Zv.l1_eq,w64 (x:=x+1) (by omega) (by omega)]
   ((with_reducible repeat (first|refine Zl (by first|assumption|omega|rfl|exact B_pos (by omega)) ?_|refine Zk (by first|assumption|omega|decide|exact B_not (by omega)) ?_|refine Ze (by first|assumption) ?_|dsimp only));first|done|(with_reducible rfl)|simp (disch:=omega) only[w64]|(show False;done))
  | succ n ih =>
   intro x y hx hx' hy hn
   have p1:=Zdl (x:=x) (a:=a) (B:=12) (m:=13) (by omega) (by omega) a0 (by omega)
   have q1:0≤x*a:=Int.mul_nonneg hx a0
   have q2:x*a≤12*12:=Int.mul_le_mul (by omega) a1 a0 (by omega)
   have q3:0≤y*b:=Int.mul_nonneg hy b0
   have q4:y*b≤12*12:=Int.mul_le_mul (by omega) b1 b0 (by omega)
   have hv:wrapI (wrapI (wrapI (x*a)+wrapI (y*b)) - d)=x*a+y*b - d:=by
    rw[w64 (x:=x*a) (by omega) (by omega),w64 (x:=y*b) (by omega) (by omega),w64 (x:=x*a+y*b) (by omega) (by omega),w64 (by omega) (by omega)]
   by_cases h:m∣x*a+y*b - d
   ·
    refine .inl ⟨y,⟨hy,by omega⟩,h,?_⟩
    have ht:=Zch.2 h
    rw[Zv.l1_eq,hv]
    ((with_reducible repeat (first|refine Zl (by first|assumption|omega|rfl|exact B_pos (by omega)) ?_|refine Zk (by first|assumption|omega|decide|exact B_not (by omega)) ?_|refine Ze (by first|assumption) ?_|dsimp only));first|done|(with_reducible rfl)|simp (disch:=omega) only[w64]|(show False;done))
   ·
    have ht:¬ Int.tmod (x*a+y*b - d) m=0:=fun k=>h (Zch.1 k)
    have hl:Zv.l1 a b d x m x m y m p=Zv.l1 a b d x m x m (y+1) m p:=by
     rw[Zv.l1_eq,hv,w64 (x:=y+1) (by omega) (by omega)]
     ((with_reducible repeat (first|refine Zl (by first|assumption|omega|rfl|exact B_pos (by omega)) ?_|refine Zk (by first|assumption|omega|decide|exact B_not (by omega)) ?_|refine Ze (by first|assumption) ?_|dsimp only));first|done|(with_reducible rfl)|simp (disch:=omega) only[w64]|(show False;done))
    rcases ih x (y+1) hx hx' (by omega) (by omega)with ⟨y', h1,h2,h3⟩|⟨h1,h2⟩
    ·
     exact .inl ⟨y', h1,h2,hl.trans h3⟩
    ·
     refine .inr ⟨fun y' k1 k2 => ?_,hl.trans h2⟩
     by_cases e:y' = y
     ·
      rw[e];exact h
     ·
      exact h1 y' (by omega) k2
 have outer:∀(n:Nat) (x:Int),0≤x→x+n=m→x≤x0→∃x' y', Zv.l0 a b d m x m p=some (x', y', d)∧(0≤x' ∧ x' < m)∧(0≤y' ∧ y' < m)∧m∣x' * a+y' * b - d:=by
  intro n
  induction n with
  | zero=>intro x hx hn hx0';omega
  | succ n ih =>
   intro x hx hn hx0'
   have hl:Zv.l0 a b d m x m p=Zv.l1 a b d x m x m 0 m p:=by
    rw[Zv.l0_eq]
    ((with_reducible repeat (first|refine Zl (by first|assumption|omega|rfl|exact B_pos (by omega)) ?_|refine Zk (by first|assumption|omega|decide|exact B_not (by omega)) ?_|refine Ze (by first|assumption) ?_|dsimp only));first|done|(with_reducible rfl)|simp (disch:=omega) only[w64]|(show False;done))
   rw[hl]
   rcases inner m.toNat x 0 hx (by omega) (by omega) (by omega)with ⟨y', h1,h2,h3⟩|⟨h1,h2⟩
   ·
    exact⟨x,y', h3,⟨hx,by omega⟩,h1,h2⟩
   ·
    rw[h2]
    refine ih (x+1) (by omega) (by omega) ?_
    by_cases e:x=x0
    ·
     exact absurd (e ▸ h0) (h1 y0 hy0.1 hy0.2)
    ·
     omega
 exact outer m.toNat 0 (by omega) (by omega) hx0.1
theorem ZhJ {a b:Int} (a0:0≤a) (a1:a≤12) (b0:0≤b) (b1:b≤12) :
  ∃s t:Int,ZR.f a b=some (((Int.gcd a b:Nat):Int),s,t)∧s*a+t*b=((Int.gcd a b:Nat):Int)∧(-100000000000000≤s∧s≤100000000000000)∧(-100000000000000≤t∧t≤100000000000000):=by
 have key:∀(k:Nat) (x y:Nat) (s t u v K:Int),x≤12→y≤12→y≤k→(-K≤s∧s≤K)→(-K≤t∧t≤K)→(-K≤u∧u≤K)→(-K≤v∧v≤K)→0≤K→K*13 ^ k≤100000000000000→s*a+t*b=x→u*a+v*b=y →
   ∃s' t' : Int,ZR.l0 (x:Int) (y:Int) s t u v=some (((Nat.gcd x y:Nat):Int),s', t')∧s' * a+t' * b=((Nat.gcd x y:Nat):Int)∧(-100000000000000≤s' ∧ s' ≤ 100000000000000)∧(-100000000000000≤t' ∧ t' ≤ 100000000000000):=by
  intro k
  induction k with
  | zero =>
   intro x y s t u v K hx hy12 hy hs ht hu hv hK hKk h1 h2
   obtain rfl:y=0:=by omega
   rw[Int.pow_zero,Int.mul_one]at hKk
   refine⟨s,t,?_,by rw[Nat.gcd_zero_right];exact h1,by omega,by omega⟩
   rw[ZR.l0_eq,Nat.gcd_zero_right]
   ((with_reducible repeat (first|refine Zl (by first|assumption|omega|rfl|exact B_pos (by omega)) ?_|refine Zk (by first|assumption|omega|decide|exact B_not (by omega)) ?_|refine Ze (by first|assumption) ?_|dsimp only));first|done|(with_reducible rfl)|simp (disch:=omega) only[w64]|(show False;done))
  | succ k ih =>
   intro x y s t u v K hx hy12 hy hs ht hu hv hK hKk h1 h2
   have hpow:(1:Int)≤13 ^ k:=Int.pow_pos (by decide)
   rw[Int.pow_succ,Int.mul_comm (13 ^ k) 13,←Int.mul_assoc]at hKk
   have hK1:K*13≤K*13*13 ^ k:=by
    have:=Int.mul_le_mul_of_nonneg_left hpow (show 0≤K*13 by omega)
    rwa[Int.mul_one]at this
   by_cases e:y=0
   ·
    subst e
    refine⟨s,t,?_,by rw[Nat.gcd_zero_right];exact h1,by omega,by omega⟩
    rw[ZR.l0_eq,Nat.gcd_zero_right]
    ((with_reducible repeat (first|refine Zl (by first|assumption|omega|rfl|exact B_pos (by omega)) ?_|refine Zk (by first|assumption|omega|decide|exact B_not (by omega)) ?_|refine Ze (by first|assumption) ?_|dsimp only));first|done|(with_reducible rfl)|simp (disch:=omega) only[w64]|(show False;done))
   ·
    have hq:(x:Int).tdiv (y:Int)=((x / y:Nat):Int):=by rw[Int.tdiv_eq_ediv_of_nonneg (by omega)];rfl
    have hq12:x / y≤12:=Nat.le_trans (Nat.div_le_self _ _) hx
    have hm:=Nat.div_add_mod x y
    have hlt:=Nat.mod_lt x (show 0 < y by omega)
    generalize x / y=Q at hq hq12 hm
    have hqy:(Q:Int)*(y:Int)=(x:Int) - ((x%y:Nat):Int):=by
     have:(y:Int)*(Q:Int)+((x%y:Nat):Int)=(x:Int):=by exact_mod_cast hm
     rw[Int.mul_comm];omega
    have bd:∀z:Int,(-K≤z∧z≤K) → -(12*K)≤(Q:Int)*z∧(Q:Int)*z≤12*K:=fun z hz=>by
     have h1:(Q:Int)*z≤(Q:Int)*K:=Int.mul_le_mul_of_nonneg_left hz.2 (by omega)
     have h2:(Q:Int)*(-K)≤(Q:Int)*z:=Int.mul_le_mul_of_nonneg_left hz.1 (by omega)
     have h3:(Q:Int)*K≤12*K:=Int.mul_le_mul_of_nonneg_right (by omega) hK
     rw[Int.mul_neg]at h2
     omega
    have bu:=bd u hu
    have bv:=bd v hv
    have hmod:((x%y:Nat):Int)=(x:Int) - (Q:Int)*y:=by omega
    obtain⟨s', t', k1,k2,k3,k4⟩:=ih y (x%y) u v (s - (Q:Int)*u) (t - (Q:Int)*v) (K*13) (by omega) (by omega) (by omega) ⟨by omega,by omega⟩ ⟨by omega,by omega⟩ ⟨by omega,by omega⟩ ⟨by omega,by omega⟩ (by omega) hKk h2 (by
     rw[Int.sub_mul,Int.sub_mul,hmod,←h1,←h2,Int.mul_add,Int.mul_assoc,Int.mul_assoc]
     omega)
    have hgc:Nat.gcd y (x%y)=Nat.gcd x y:=by rw[Nat.gcd_comm x y,Nat.gcd_rec y x,Nat.gcd_comm]
    rw[hgc]at k1 k2
    refine⟨s', t', ?_,k2,k3,k4⟩
    have w1:wrapI (Q:Int)=(Q:Int):=w64 (by omega) (by omega)
    rw[ZR.l0_eq,hq,w1,hqy,w64 (x:=(x:Int) - ((x%y:Nat):Int)) (by omega) (by omega),w64 (x:=(x:Int) - ((x:Int) - ((x%y:Nat):Int))) (by omega) (by omega),w64 (x:=(Q:Int)*u) (by omega) (by omega),w64 (x:=(Q:Int)*v) (by omega) (by omega),w64 (x:=s - (Q:Int)*u) (by omega) (by omega),w64 (x:=t - (Q:Int)*v) (by omega) (by omega),show(x:Int) - ((x:Int) - ((x%y:Nat):Int))=((x%y:Nat):Int)by omega]
    (with_reducible repeat (first|refine Zl (by first|assumption|omega|rfl|exact B_pos (by omega)) ?_|refine Zk (by first|assumption|omega|decide|exact B_not (by omega)) ?_|refine Ze (by first|assumption) ?_|dsimp only))
    exact k1
 obtain⟨A,rfl⟩:=Int.eq_ofNat_of_zero_le a0
 obtain⟨C,rfl⟩:=Int.eq_ofNat_of_zero_le b0
 rw[ZR.f_eq]
 exact key 12 A C 1 0 0 1 1 (by omega) (by omega) (by omega) (by omega) (by omega) (by omega) (by omega) (by omega) (by decide) (by omega) (by omega)
theorem Zjq:∀m:Nat,m≤12→∀x:Nat,x < m→0 < x→((List.range 13).any fun u=>decide (1≤u) && decide (Nat.gcd u m=1) && decide (x*u%m=Nat.gcd x m%m))=true:=by decide
theorem Znc:∀m:Nat,m≤12→∀u:Nat,u≤12→2≤m→Nat.gcd u m=1→((List.range 13).any fun v=>decide (u*v%m=1))=true:=by decide
theorem ZgQ {m u:Int} (m2:2≤m) (m12:m≤12) (u0:0≤u) (u1:u≤12) (h:Int.gcd u m=1):∃v:Int,m∣u*v - 1:=by
 obtain⟨M,rfl⟩:=Int.eq_ofNat_of_zero_le (show 0≤m by omega)
 obtain⟨U,rfl⟩:=Int.eq_ofNat_of_zero_le u0
 have:=Znc M (by omega) U (by omega) (by omega) (by simpa [Int.gcd] using h)
 obtain⟨v,_,hv⟩:=List.any_eq_true.1 this
 have hv:=of_decide_eq_true hv
 refine⟨(v:Int),((U*v / M:Nat):Int),?_⟩
 have h1:=Nat.div_add_mod (U*v) M
 rw[hv]at h1
 have:(M:Int)*((U*v / M:Nat):Int)+1=(U:Int)*(v:Int):=by exact_mod_cast h1
 omega
theorem Unit_ {m:Int} (m2:2≤m) (m12:m≤12) {own:List Int} (ho:AllIn m own) (hW:own.length≤1000000) {j:Nat} (hj:j < own.length) (hx:¬ rd own (j:Int)=0) :
  ∃u:Int,(1≤u∧u≤12)∧Int.gcd u m=1∧m∣u*rd own (j:Int) - ((Int.gcd (rd own (j:Int)) m:Nat):Int)∧Zae.f own (j:Int) m=some (mix m u own 0 own):=by
 obtain⟨x0,x1⟩:=ho j (by omega) (by omega)
 have hG:=Gcd_ (a:=rd own (j:Int)) (b:=m) (by omega) (by omega) (by omega) (by omega)
 rw[Zae.f_eq]
 have hex:∃u:Nat,1≤u∧u≤12∧Int.gcd (u:Int) m=1∧(rd own (j:Int)*u)%m=((Int.gcd (rd own (j:Int)) m:Nat):Int)%m:=by
  obtain⟨X,hX⟩:=Int.eq_ofNat_of_zero_le x0
  obtain⟨M,rfl⟩:=Int.eq_ofNat_of_zero_le (show 0≤m by omega)
  have:=Zjq M (by omega) X (by omega) (by omega)
  obtain⟨u,hu1,hu2⟩:=List.any_eq_true.1 this
  have hu1:=List.mem_range.1 hu1
  simp only[Bool.and_eq_true,decide_eq_true_eq]at hu2
  refine⟨u,hu2.1.1,by omega,by simpa [Int.gcd] using hu2.1.2,?_⟩
  rw[hX]
  have h2:=hu2.2
  have e:Int.gcd (X:Int) (M:Int)=Nat.gcd X M:=by simp[Int.gcd]
  rw[e]
  exact_mod_cast h2
 obtain⟨u0,u1,u2,u3,u4⟩:=hex
 have hd:0 < ((Int.gcd (rd own (j:Int)) m:Nat):Int)∧((Int.gcd (rd own (j:Int)) m:Nat):Int) < m:=by
  have h1:((Int.gcd (rd own (j:Int)) m:Nat):Int)≤rd own (j:Int):=Int.le_of_dvd (by omega) (Int.gcd_dvd_left ..)
  have h2:0 < Int.gcd (rd own (j:Int)) m:=Int.gcd_pos_of_ne_zero_left _ hx
  omega
 generalize ((Int.gcd (rd own (j:Int)) m:Nat):Int)=d at hd u4 hG ⊢
 have hdm:d.tmod m=d:=by rw[Int.tmod_eq_emod_of_nonneg (by omega),Int.emod_eq_of_lt (by omega) (by omega)]
 rw[Int.emod_eq_of_lt (a:=d) (by omega) (by omega)]at u4
 have loop:∀(n u:Nat),1≤u→u+n=u0→∃u' : Int,(1≤u' ∧ u' ≤ 12)∧Int.gcd u' m=1∧m∣u' * rd own (j:Int) - d∧Zae.l0 own (j:Int) m d (u:Int)=some (mix m u' own 0 own):=by
  intro n
  induction n with
  | zero =>
   intro u hu hn
   obtain rfl:u=u0:=by omega
   have hg:=Gcd_ (a:=(u:Int)) (b:=m) (by omega) (by omega) (by omega) (by omega)
   rw[u3]at hg
   have hmix:=Mix_ m2 m12 (x:=(u:Int)) (y:=0) ho ho rfl hW (by omega) (by omega) (by omega) (by omega)
   have p1:=Zdl (x:=(u:Int)) (a:=rd own (j:Int)) (B:=12) (by omega) (by omega) x0 x1 m12 (by omega)
   have p2:0≤(u:Int)*rd own (j:Int):=Int.mul_nonneg (by omega) x0
   have e1:wrapI (rd own (j:Int)*(u:Int))=(u:Int)*rd own (j:Int):=by rw[Int.mul_comm,w64 (by omega) (by omega)]
   have e2:((u:Int)*rd own (j:Int)).tmod m=d.tmod m:=by rw[hdm,Int.tmod_eq_emod_of_nonneg p2,Int.mul_comm,u4]
   refine⟨(u:Int),by omega,u3,?_,?_⟩
   ·
    rw[←u4,Int.mul_comm];exact Int.dvd_self_sub_emod
   ·
    rw[Zae.l0_eq,e1]
    ((with_reducible repeat (first|refine Zl (by first|assumption|omega|rfl|exact B_pos (by omega)) ?_|refine Zk (by first|assumption|omega|decide|exact B_not (by omega)) ?_|refine Ze (by first|assumption) ?_|dsimp only));first|done|(with_reducible rfl)|simp (disch:=omega) only[w64]|(show False;done))
  | succ n ih =>
   intro u hu hn
   have hg:=Gcd_ (a:=(u:Int)) (b:=m) (by omega) (by omega) (by omega) (by omega)
   have p1:=Zdl (x:=(u:Int)) (a:=rd own (j:Int)) (B:=12) (by omega) (by omega) x0 x1 m12 (by omega)
   have p2:0≤(u:Int)*rd own (j:Int):=Int.mul_nonneg (by omega) x0
   have e1:wrapI (rd own (j:Int)*(u:Int))=(u:Int)*rd own (j:Int):=by rw[Int.mul_comm,w64 (by omega) (by omega)]
   by_cases h1:Int.gcd (u:Int) m=1
   ·
    rw[h1]at hg
    by_cases h2:((u:Int)*rd own (j:Int)).tmod m=d.tmod m
    ·
     have hmix:=Mix_ m2 m12 (x:=(u:Int)) (y:=0) ho ho rfl hW (by omega) (by omega) (by omega) (by omega)
     refine⟨(u:Int),by omega,h1,?_,?_⟩
     ·
      rw[hdm,Int.tmod_eq_emod_of_nonneg p2]at h2
      rw[←h2];exact Int.dvd_self_sub_emod
     ·
      rw[Zae.l0_eq,e1]
      ((with_reducible repeat (first|refine Zl (by first|assumption|omega|rfl|exact B_pos (by omega)) ?_|refine Zk (by first|assumption|omega|decide|exact B_not (by omega)) ?_|refine Ze (by first|assumption) ?_|dsimp only));first|done|(with_reducible rfl)|simp (disch:=omega) only[w64]|(show False;done))
    ·
     obtain⟨u', k1,k2,k3,k4⟩:=ih (u+1) (by omega) (by omega)
     refine⟨u', k1,k2,k3,?_⟩
     rw[Zae.l0_eq,e1,wn (j:=u) (by omega)]
     (with_reducible repeat (first|refine Zl (by first|assumption|omega|rfl|exact B_pos (by omega)) ?_|refine Zk (by first|assumption|omega|decide|exact B_not (by omega)) ?_|refine Ze (by first|assumption) ?_|dsimp only))
     exact k4
   ·
    have h1' : ¬ ((Int.gcd (u:Int) m:Nat):Int)=1:=by omega
    obtain⟨u', k1,k2,k3,k4⟩:=ih (u+1) (by omega) (by omega)
    refine⟨u', k1,k2,k3,?_⟩
    rw[Zae.l0_eq,wn (j:=u) (by omega)]
    (with_reducible repeat (first|refine Zl (by first|assumption|omega|rfl|exact B_pos (by omega)) ?_|refine Zk (by first|assumption|omega|decide|exact B_not (by omega)) ?_|refine Ze (by first|assumption) ?_|dsimp only))
    exact k4
 obtain⟨u', k1,k2,k3,k4⟩:=loop (u0 - 1) 1 (by omega) (by omega)
 refine⟨u', k1,k2,k3,?_⟩
 (with_reducible repeat (first|refine Zl (by first|assumption|omega|rfl|exact B_pos (by omega)) ?_|refine Zk (by first|assumption|omega|decide|exact B_not (by omega)) ?_|refine Ze (by first|assumption) ?_|dsimp only))
 exact k4
end Go.Proofs.YtdamfbighdkcbaaGreat.V
namespace Go.Proofs.YtdamfbighdkcbaaGreat.V
open Go.RowKit Go.Proofs.YtdamfbighdkcbaaGreat.D
theorem ZaD {p:List (List Int)} {j:Nat} {n:List Int} (h:j < p.length):row (p.set j n) (j:Int)=n:=by
 rw[Zbf (by rw[List.length_set];exact h)]
 simp
theorem Za5 {p:List (List Int)} {i j:Nat} {n:List Int} (h:i≠j):row (p.set j n) (i:Int)=row p (i:Int):=by
 simp only[row,Int.toNat_natCast,List.getD_eq_getElem?_getD,List.getElem?_set,if_neg (show ¬ j=i from fun e=>h e.symm)]
def Zb (k:Nat) (s:List Int):Prop:=∀i:Nat,i < k→rd s (i:Int)=0
section
variable {m:Int} {W:Nat} {p p' st st' : List (List Int)} {M:Vc→Prop}
theorem PTab.set (h:PTab m W p) {j:Nat} {n:List Int} (hj:j < W) (hn:PRow m W j n):PTab m W (p.set j n) where
 len:=by rw[List.length_set];exact h.len
 rws:=fun i hi=>by
  by_cases e:i=j
  ·
   subst e;rw[ZaD (by rw[h.len];exact hj)];exact .inr hn
  ·
   rw[Za5 e];exact h.rws i hi
theorem PRow.ne {j:Nat} {n:List Int} (h:PRow m W j n):n≠[]:=fun e=>by
 have:=h.pos
 rw[e]at this
 simp[rd]at this
def dsum (m:Int) (p:List (List Int)):Nat→Int
 | 0=>0
 | k+1=>dsum m p k+dv m p k
theorem ZdM (hl:p.length=W) {j:Nat} {n:List Int} (hj:j < W) (hn:n≠[]):dv m (p.set j n) j=rd n (j:Int):=by
 unfold dv;rw[ZaD (by omega),if_neg hn]
theorem ZkJ {i j:Nat} {n:List Int} (h:i≠j):dv m (p.set j n) i=dv m p i:=by
 unfold dv;rw[Za5 h]
theorem Zgi (hl:p.length=W) {j:Nat} {n:List Int} (hj:j < W):∀k,dsum m (p.set j n) k=dsum m p k+if j < k then dv m (p.set j n) j - dv m p j else 0:=by
 intro k
 induction k with
 | zero=>simp[dsum]
 | succ k ih =>
  rw[dsum,dsum,ih]
  by_cases e:j=k
  ·
   subst e
   rw[if_neg (Nat.lt_irrefl j),if_pos (Nat.lt_succ_self j)];omega
  ·
   rw[ZkJ (fun q=>e q.symm)]
   by_cases h:j < k
   ·
    rw[if_pos h,if_pos (by omega)];omega
   ·
    rw[if_neg h,if_neg (by omega)];omega
theorem ZcS (m0:0 < m) (ht:PTab m W p):∀k,k≤W→0≤dsum m p k∧dsum m p k≤m*k:=by
 intro k
 induction k with
 | zero=>intro _;simp[dsum]
 | succ k ih =>
  intro hk
  obtain⟨a,b⟩:=ih (by omega)
  obtain⟨c,d,_⟩:=dv_bd m0 ht (show k < W by omega)
  rw[dsum,show m*((k+1:Nat):Int)=m*(k:Int)+m by rw[Int.natCast_add,Int.mul_add];simp]
  omega
structure Pst (m:Int) (W:Nat) (p st:List (List Int)) (M:Vc→Prop):Prop where
 inv:Inv m W p st
 spn:∀x,Sp m W (GT W p st 0) x↔M x
theorem Pst.step (h:Pst m W p st M) (ht:PTab m W p') (hs:∀s∈st', s.length=W∧AllIn m s)
  (ha:∀k g,GT W p st k g→Sp m W (GT W p' st' k) g) (hb:∀g,GT W p' st' 0 g→Sp m W (GT W p st 0) g)
  (hn:∀j:Nat,j < W→row p' (j:Int)≠[]→row p' (j:Int)≠row p (j:Int)→Sp m W (GT W p' st' (j+1)) (fun i=>m / rd (row p' (j:Int)) (j:Int)*rd (row p' (j:Int)) (i:Int))):Pst m W p' st' M where
 inv:=⟨ht,hs,fun j hj hr=>by
  by_cases e:row p' (j:Int)=row p (j:Int)
  ·
   have:=h.inv.how j hj (by rw[←e];exact hr)
   rw[e]
   exact this.mono (ha (j+1))
  ·
   exact hn j hj hr e⟩
 spn:=fun x=>by
  rw[←h.spn x]
  exact⟨fun hx=>hx.mono hb,fun hx=>hx.mono (ha 0)⟩
theorem GT.zb {k:Nat} {s:List Int} (hs:s∈st) (hz:Zb k s):GT W p st k (V s) := .inr ⟨s,hs,hz,rfl⟩
theorem Pst.drop {v:List Int} (h:Pst m W p (st++[v]) M) (hz:Zb W v):Pst m W p st M:=by
 refine h.step h.inv.tab (fun s hs=>h.inv.sts s (List.mem_append_left _ hs)) (fun k g hg => ?_) (fun g hg => .gen ?_) (fun j _ _ e=>absurd rfl e)
 ·
  rcases hg with hg|⟨s,hs,hk,rfl⟩
  ·
   exact .gen (.inl hg)
  ·
   rcases List.mem_append.1 hs with hs|hs
   ·
    exact .gen (.inr ⟨s,hs,hk,rfl⟩)
   ·
    rw[List.mem_singleton]at hs
    subst hs
    exact .alike .nil fun i hi=>by rw[show V s i=0 from hz i hi];exact⟨0,by omega⟩
 ·
  rcases hg with hg|⟨s,hs,hk,rfl⟩
  ·
   exact .inl hg
  ·
   exact .inr ⟨s,List.mem_append_left _ hs,hk,rfl⟩
theorem Pst.less {v w:List Int} {c:Int} (h:Pst m W p (st++[v]) M) {j:Nat} (hj:j < W) (hr:row p (j:Int)≠[]) (hvj:rd v (j:Int)≠0) (hw:w.length=W∧AllIn m w) (hz:Zb j w)
  (he:∀i:Nat,i < W→m∣1*rd v (i:Int)+(-c)*rd (row p (j:Int)) (i:Int) - rd w (i:Int)):Pst m W p (st++[w]) M:=by
 refine h.step h.inv.tab (fun s hs => ?_) (fun k g hg => ?_) (fun g hg => ?_) (fun j _ _ e=>absurd rfl e)
 ·
  rcases List.mem_append.1 hs with hs|hs
  ·
   exact h.inv.sts s (List.mem_append_left _ hs)
  ·
   rw[List.mem_singleton]at hs;subst hs;exact hw
 ·
  rcases hg with hg|⟨s,hs,hk,rfl⟩
  ·
   exact .gen (.inl hg)
  ·
   rcases List.mem_append.1 hs with hs|hs
   ·
    exact .gen (.inr ⟨s,List.mem_append_left _ hs,hk,rfl⟩)
   ·
    rw[List.mem_singleton]at hs
    subst hs
    have hkj:k≤j:=by
     by_cases q:k≤j
     ·
      exact q
     ·
      exact absurd (hk j (by omega)) hvj
    refine Sp.two (a:=1) (b:=c) (x:=V w) (y:=V (row p (j:Int))) (.gen (GT.zb (List.mem_append_right _ (List.mem_singleton.2 rfl)) fun i hi=>hz i (by omega))) (.gen (.inl ⟨j,hkj,hj,hr,rfl⟩)) fun i hi => ?_
    obtain⟨q,hq⟩:=he i hi
    refine⟨-q,?_⟩
    rw[Int.mul_neg,←hq,Int.neg_mul]
    show 1*rd w (i:Int)+c*rd (row p (j:Int)) (i:Int) - rd s (i:Int)=_
    omega
 ·
  rcases hg with hg|⟨s,hs,hk,rfl⟩
  ·
   exact .gen (.inl hg)
  ·
   rcases List.mem_append.1 hs with hs|hs
   ·
    exact .gen (.inr ⟨s,List.mem_append_left _ hs,hk,rfl⟩)
   ·
    rw[List.mem_singleton]at hs
    subst hs
    exact Sp.two (a:=1) (b := -c) (x:=V v) (y:=V (row p (j:Int))) (.gen (GT.zb (List.mem_append_right _ (List.mem_singleton.2 rfl)) fun i hi=>by omega)) (.gen (.inl ⟨j,Nat.zero_le _,hj,hr,rfl⟩)) fun i hi=>he i hi
theorem Pst.swap {v n:List Int} {ws:List (List Int)} (h:Pst m W p (st++[v]) M) {j:Nat} (hj:j < W) (hvj:rd v (j:Int)≠0) (hn:PRow m W j n) (hws:∀w∈ws,(w.length=W∧AllIn m w)∧Zb (j+1) w)
  (ho:row p (j:Int)≠[]→Sp m W (fun g=>g=V n∨∃w∈ws,g=V w) (V (row p (j:Int))))
  (hv:Sp m W (fun g=>g=V n∨∃w∈ws,g=V w) (V v))
  (hd:Sp m W (fun g=>∃w∈ws,g=V w) (fun i=>m / rd n (j:Int)*rd n (i:Int)))
  (hb:∀g,(g=V n∨∃w∈ws,g=V w)→Sp m W (fun g=>g=V v∨(row p (j:Int)≠[]∧g=V (row p (j:Int)))) g):Pst m W (p.set j n) (st++ws) M:=by
 have hpl:j < p.length:=by rw[h.inv.tab.len];exact hj
 have hsame:row (p.set j n) (j:Int)=n:=ZaD hpl
 have new:∀k,k≤j→∀g,(g=V n∨∃w∈ws,g=V w)→Sp m W (GT W (p.set j n) (st++ws) k) g:=fun k hk g hg=>by
  rcases hg with rfl|⟨w,hw,rfl⟩
  ·
   exact .gen (.inl ⟨j,hk,hj,by rw[hsame];exact hn.ne,by rw[hsame]⟩)
  ·
   exact .gen (GT.zb (List.mem_append_right _ hw) fun i hi=>(hws w hw).2 i (by omega))
 have old:∀g,(g=V v∨(row p (j:Int)≠[]∧g=V (row p (j:Int))))→Sp m W (GT W p (st++[v]) 0) g:=fun g hg=>by
  rcases hg with rfl|⟨hr,rfl⟩
  ·
   exact .gen (GT.zb (List.mem_append_right _ (List.mem_singleton.2 rfl)) fun i hi=>by omega)
  ·
   exact .gen (.inl ⟨j,Nat.zero_le _,hj,hr,rfl⟩)
 refine h.step (h.inv.tab.set hj hn) (fun s hs => ?_) (fun k g hg => ?_) (fun g hg => ?_) (fun i hi hr e => ?_)
 ·
  rcases List.mem_append.1 hs with hs|hs
  ·
   exact h.inv.sts s (List.mem_append_left _ hs)
  ·
   exact(hws s hs).1
 ·
  rcases hg with ⟨i,hk,hi,hr,rfl⟩|⟨s,hs,hk,rfl⟩
  ·
   by_cases e:i=j
   ·
    subst e
    exact(ho hr).mono (new k hk)
   ·
    exact .gen (.inl ⟨i,hk,hi,by rw[Za5 e];exact hr,by rw[Za5 e]⟩)
  ·
   rcases List.mem_append.1 hs with hs|hs
   ·
    exact .gen (.inr ⟨s,List.mem_append_left _ hs,hk,rfl⟩)
   ·
    rw[List.mem_singleton]at hs
    subst hs
    have hkj:k≤j:=by
     by_cases q:k≤j
     ·
      exact q
     ·
      exact absurd (hk j (by omega)) hvj
    exact hv.mono (new k hkj)
 ·
  rcases hg with ⟨i,hk,hi,hr,rfl⟩|⟨s,hs,hk,rfl⟩
  ·
   by_cases e:i=j
   ·
    subst e
    rw[hsame]
    exact(hb _ (.inl rfl)).mono old
   ·
    rw[Za5 e]at hr ⊢
    exact .gen (.inl ⟨i,hk,hi,hr,rfl⟩)
  ·
   rcases List.mem_append.1 hs with hs|hs
   ·
    exact .gen (.inr ⟨s,List.mem_append_left _ hs,hk,rfl⟩)
   ·
    exact(hb _ (.inr ⟨s,hs,rfl⟩)).mono old
 ·
  by_cases q:i=j
  ·
   subst q
   rw[hsame]
   exact hd.mono fun g hg=>by
    obtain⟨w,hw,rfl⟩:=hg
    exact .gen (GT.zb (List.mem_append_right _ hw) (hws w hw).2)
  ·
   exact absurd (Za5 q) e
end
end Go.Proofs.YtdamfbighdkcbaaGreat.V
set_option maxHeartbeats 4000000
namespace Go.Proofs.YtdamfbighdkcbaaGreat.V
open Go.RowKit Go.Proofs.YtdamfbighdkcbaaGreat.D Go.Proofs.YtdamfbighdkcbaaGreat.P
theorem indexFunc (v:List Int) (hl:v.length≤1000000):(Zb v.length v∧Zn.f v (fun z0=>(Zap.f z0).map fun z=>z)=some (-1)) ∨
  ∃j:Nat,j < v.length∧Zb j v∧¬ rd v (j:Int)=0∧Zn.f v (fun z0=>(Zap.f z0).map fun z=>z)=some (j:Int):=by
 rw[Zn.f_eq]
 obtain⟨F,hF⟩:∃F:Int→Option Bool,F=fun z0=>(Zap.f z0).map fun z=>z:=⟨_,rfl⟩
 rw[←hF]
 have hf:∀x,F x=some (!decide (x=0)):=fun x=>by rw[hF];show Option.map _ (Zap.f x)=_;rw[Zap.f_eq];rfl
 suffices H:∀d k:Nat,k+d=v.length→Zb k v→(Zb v.length v∧Zn.l0 v F (v.length:Int) (k:Int)=some (-1)) ∨
   ∃j:Nat,j < v.length∧Zb j v∧¬ rd v (j:Int)=0∧Zn.l0 v F (v.length:Int) (k:Int)=some (j:Int)from
  H v.length 0 (by omega) (fun i hi=>by omega)
 intro d
 induction d with
 | zero =>
  intro k hd hz
  obtain rfl:k=v.length:=by omega
  refine .inl ⟨hz,?_⟩
  (rw[Zn.l0_eq])
  ((with_reducible repeat (first|refine Zl (by first|assumption|omega|rfl|exact B_pos (by omega)) ?_|refine Zk (by first|assumption|omega|decide|exact B_not (by omega)) ?_|refine Ze (by first|assumption) ?_|dsimp only));first|done|(with_reducible rfl)|simp (disch:=omega) only[w64]|(show False;done))
 | succ d ih =>
  intro k hd hz
  have hfk:=hf (rd v (k:Int))
  by_cases h:rd v (k:Int)=0
  ·
   have st:Zn.l0 v F (v.length:Int) (k:Int)=Zn.l0 v F (v.length:Int) ((k+1:Nat):Int):=by
    rw[h]at hfk
    rw[Zn.l0_eq,wn (j:=k) (by omega),h]
    (with_reducible repeat (first|refine Zl (by first|assumption|omega|rfl|exact B_pos (by omega)) ?_|refine Zk (by first|assumption|omega|decide|exact B_not (by omega)) ?_|refine Ze (by first|assumption) ?_|dsimp only))
   rw[st]
   refine ih (k+1) (by omega) fun i hi => ?_
   by_cases e:i=k
   ·
    rw[e];exact h
   ·
    exact hz i (by omega)
  ·
   refine .inr ⟨k,by omega,hz,h,?_⟩
   rw[Zn.l0_eq]
   (with_reducible repeat (first|refine Zl (by first|assumption|omega|rfl|exact B_pos (by omega)) ?_|refine Zk (by first|assumption|omega|decide|exact B_not (by omega)) ?_|refine Ze (by first|assumption) ?_|dsimp only))
   rw[decide_eq_false h]
   rfl
theorem ZbD (n:Nat) (i:Int):rd (List.replicate n (0:Int)) i=0:=by
 simp only[rd,List.getD_eq_getElem?_getD,List.getElem?_replicate]
 split <;> rfl
theorem ZgR {m:Int} (m0:0 < m) (n:Nat):AllIn m (List.replicate n (0:Int)):=fun i _ _=>by rw[ZbD];omega
theorem Zi4 {m a b c e:Int} (h:m∣1*a+(-e)*b - c):m∣1*c+e*b - a:=by
 obtain⟨q,hq⟩:=h
 refine⟨-q,?_⟩
 rw[Int.mul_neg,←hq,Int.neg_mul]
 omega
theorem ZgO {d e:Int} (d0:0 < d):Int.tdiv (0 - d*e) d = -e:=by
 rw[show 0 - d*e=d*(-e)by rw[Int.mul_neg];omega]
 exact Int.mul_tdiv_cancel_left _ (by omega)
theorem ZeZ (st:List (List Int)) (v:List Int):row (st++[v]) (st.length:Int)=v:=by simp[row,List.getD_eq_getElem?_getD]
theorem Zef (st:List (List Int)) (v:List Int):(st++[v]).take st.length=st:=by simp
theorem ZcZ {d e x:Int} (d0:0 < d) (h:x=d*e) (x0:0≤x) (x1:x≤12):0≤e∧e≤12:=by
 constructor
 ·
  by_cases q:0≤e
  ·
   exact q
  ·
   have:=Int.mul_le_mul_of_nonneg_left (show e ≤ -1 by omega) (Int.le_of_lt d0)
   omega
 ·
  by_cases q:e≤12
  ·
   exact q
  ·
   have h1:=Int.mul_le_mul_of_nonneg_right (show 1≤d by omega) (show 0≤e by omega)
   omega
theorem put_top {m:Int} (m2:2≤m) (m12:m≤12) {W:Nat} (hW:W≤100000) {M:Vc→Prop}:∀(n j:Nat) (v:List Int) (p st:List (List Int)),W≤j+n→Zb j v→Pst m W p (st++[v]) M→st.length≤1000000000 →
  (ZA.l0 m p (st++[v])=ZA.l0 m p st∧Pst m W p st M) ∨
  ∃p' ws,ZA.l0 m p (st++[v])=ZA.l0 m p' (st++ws)∧ws.length=3∧Pst m W p' (st++ws) M∧dsum m p' W < dsum m p W:=by
 intro n
 induction n with
 | zero =>
  intro j v p st hj hz h hst
  obtain⟨hvl,hva⟩:=h.inv.sts v (List.mem_append_right _ (List.mem_singleton.2 rfl))
  have e0:(st++[v]).length=st.length+1:=by simp
  have e1:wrapI (((st++[v]).length:Int) - 1)=(st.length:Int):=by rw[w64 (by omega) (by omega)];omega
  rcases indexFunc v (by omega)with ⟨hzz,hI⟩|⟨i,hi,hzi,hne,hI⟩
  ·
   rw[hvl]at hzz
   refine .inl ⟨?_,h.drop hzz⟩
   rw[ZA.l0_eq,e1,ZeZ,Int.toNat_natCast,Zef]
   ((with_reducible repeat (first|refine Zl (by first|assumption|omega|rfl|exact B_pos (by omega)) ?_|refine Zk (by first|assumption|omega|decide|exact B_not (by omega)) ?_|refine Ze (by first|assumption) ?_|dsimp only));first|done|(with_reducible rfl)|simp (disch:=omega) only[w64]|(show False;done))
  ·
   exact absurd (hz i (by omega)) hne
 | succ n ih =>
  intro j v p st hj hz h hst
  obtain⟨hvl,hva⟩:=h.inv.sts v (List.mem_append_right _ (List.mem_singleton.2 rfl))
  have e0:(st++[v]).length=st.length+1:=by simp
  have e1:wrapI (((st++[v]).length:Int) - 1)=(st.length:Int):=by rw[w64 (by omega) (by omega)];omega
  rcases indexFunc v (by omega)with ⟨hzz,hI⟩|⟨i,hi,hzi,hne,hI⟩
  ·
   rw[hvl]at hzz
   refine .inl ⟨?_,h.drop hzz⟩
   rw[ZA.l0_eq,e1,ZeZ,Int.toNat_natCast,Zef]
   ((with_reducible repeat (first|refine Zl (by first|assumption|omega|rfl|exact B_pos (by omega)) ?_|refine Zk (by first|assumption|omega|decide|exact B_not (by omega)) ?_|refine Ze (by first|assumption) ?_|dsimp only));first|done|(with_reducible rfl)|simp (disch:=omega) only[w64]|(show False;done))
  have hij:j≤i:=by
   by_cases q:j≤i
   ·
    exact q
   ·
    exact absurd (hz i (by omega)) hne
  have hpl:=h.inv.tab.len
  have hiW:i < W:=by omega
  obtain⟨v0,v1⟩:=hva i (by omega) (by omega)
  have swap:∀o:List Int,(row p (i:Int)=[]∧o=List.replicate v.length 0∨row p (i:Int)≠[]∧o=row p (i:Int))→(¬ rd o (i:Int)=0→¬ Int.tmod (rd v (i:Int)) (rd o (i:Int))=0) →
    ∃p' ws,ZA.j1 v i o m p st=ZA.l0 m p' (st++ws)∧ws.length=3∧Pst m W p' (st++ws) M∧dsum m p' W < dsum m p W:=by
   intro o ho hnd
   have ol:o.length=W:=by
    rcases ho with ⟨_,rfl⟩|⟨hr,rfl⟩
    ·
     rw[List.length_replicate];exact hvl
    ·
     exact(h.inv.tab.prow hiW hr).len
   have oa:AllIn m o:=by
    rcases ho with ⟨_,rfl⟩|⟨hr,rfl⟩
    ·
     exact ZgR (by omega) _
    ·
     exact(h.inv.tab.prow hiW hr).ent
   have oz:Zb i o:=by
    rcases ho with ⟨_,rfl⟩|⟨hr,rfl⟩
    ·
     exact fun k _=>ZbD _ _
    ·
     exact(h.inv.tab.prow hiW hr).zero
   obtain⟨o0,o1⟩:=oa i (by omega) (by omega)
   obtain⟨x,y,hbz,hx,hy,hxy⟩:=bezout m2 m12 (p:=p) (a:=rd o (i:Int)) (b:=rd v (i:Int)) o0 (by omega) v0 (by omega)
   have dm:((Int.gcd ((Int.gcd (rd o (i:Int)) (rd v (i:Int)):Nat):Int) m:Nat):Int)∣m:=Int.gcd_dvd_right ..
   have dg:((Int.gcd ((Int.gcd (rd o (i:Int)) (rd v (i:Int)):Nat):Int) m:Nat):Int)∣((Int.gcd (rd o (i:Int)) (rd v (i:Int)):Nat):Int):=Int.gcd_dvd_left ..
   have dO:=Int.dvd_trans dg (Int.gcd_dvd_left (a:=rd o (i:Int)) (b:=rd v (i:Int)))
   have dV:=Int.dvd_trans dg (Int.gcd_dvd_right (a:=rd o (i:Int)) (b:=rd v (i:Int)))
   have d0:0 < ((Int.gcd ((Int.gcd (rd o (i:Int)) (rd v (i:Int)):Nat):Int) m:Nat):Int):=by
    have:0 < Int.gcd ((Int.gcd (rd o (i:Int)) (rd v (i:Int)):Nat):Int) m:=Int.gcd_pos_of_ne_zero_right _ (by omega)
    omega
   generalize ((Int.gcd ((Int.gcd (rd o (i:Int)) (rd v (i:Int)):Nat):Int) m:Nat):Int)=d at hbz hxy dm dO dV d0
   clear dg
   have dv1:d≤rd v (i:Int):=Int.le_of_dvd (by omega) dV
   obtain⟨eo,heo⟩:=dO
   obtain⟨ev,hev⟩:=dV
   obtain⟨eo0,eo1⟩:=ZcZ d0 heo o0 (by omega)
   obtain⟨ev0,ev1⟩:=ZcZ d0 hev v0 (by omega)
   obtain⟨md,hmd⟩:=dm
   obtain⟨md0,md1⟩:=ZcZ d0 hmd (by omega) m12
   have hmdd:Int.tdiv m d=md:=by rw[hmd];exact Int.mul_tdiv_cancel_left _ (by omega)
   have hmde:m / d=md:=by rw[hmd];exact Int.mul_ediv_cancel_left _ (by omega)
   have c1:=combined m2 m12 (p:=p) (x:=x) (y:=y) oa hva (by omega) (by omega) (by omega) (by omega) (by omega) (by omega)
   obtain⟨nx,hnx⟩:∃nx,nx=mix m x o y v:=⟨_,rfl⟩
   have nl:nx.length=W:=by rw[hnx,Za4,ol]
   have na:AllIn m nx:=by rw[hnx];exact Zb2 (by omega)
   have nz:Zb i nx:=fun k hk=>by
    rw[hnx,Zbw (by omega),oz k hk,hzi k hk];simp
   have nd:rd nx (i:Int)=d:=by
    rw[hnx,Zbw (by omega)]
    have:(x*rd o (i:Int)+y*rd v (i:Int))%m=d%m:=by
     obtain⟨q,hq⟩:=hxy
     rw[show x*rd o (i:Int)+y*rd v (i:Int)=d+m*q by omega,Int.add_mul_emod_self_left]
    rw[this,Int.emod_eq_of_lt (by omega) (by omega)]
   have nP:PRow m W i nx:=⟨nl,na,nz,by omega,by omega,by rw[nd];exact⟨md,hmd⟩⟩
   rw[←hnx]at c1
   have c2:=combined m2 m12 (p:=p.set i nx) (x:=1) (y := -eo) oa na (by omega) (by omega) (by omega) (by omega) (by omega) (by omega)
   have c3:=combined m2 m12 (p:=p.set i nx) (x:=1) (y := -ev) hva na (by omega) (by omega) (by omega) (by omega) (by omega) (by omega)
   have c4:=combined m2 m12 (p:=p.set i nx) (x:=md) (y:=0) na na rfl (by omega) (by omega) (by omega) (by omega) (by omega)
   have f1:wrapI ((wrapI (0 - rd o (i:Int))).tdiv d) = -eo:=by rw[w64 (x:=0 - rd o (i:Int)) (by omega) (by omega),heo,ZgO d0,w64 (by omega) (by omega)]
   have f2:wrapI ((wrapI (0 - rd v (i:Int))).tdiv d) = -ev:=by rw[w64 (x:=0 - rd v (i:Int)) (by omega) (by omega),hev,ZgO d0,w64 (by omega) (by omega)]
   have f3:wrapI (Int.tdiv m d)=md:=by rw[hmdd];exact w64 (by omega) (by omega)
   have l3:∀a b c:List Int,([a,b,c]:List (List Int)).length=3:=fun _ _ _=>rfl
   have hset:(p.set i nx).length=W:=by rw[List.length_set];exact hpl
   refine⟨p.set i nx,[mix m 1 o (-eo) nx,mix m 1 v (-ev) nx,mix m md nx 0 nx],?_,rfl,?_,?_⟩
   ·
    rw[ZA.j1_eq]
    by_cases q:rd o (i:Int)=0
    ·
     (with_reducible repeat (first|refine Zl (by first|assumption|omega|rfl|exact B_pos (by omega)) ?_|refine Zk (by first|assumption|omega|decide|exact B_not (by omega)) ?_|refine Ze (by first|assumption) ?_|dsimp only))
     rw[Int.toNat_natCast,f1]
     (with_reducible repeat (first|refine Zl (by first|assumption|omega|rfl|exact B_pos (by omega)) ?_|refine Zk (by first|assumption|omega|decide|exact B_not (by omega)) ?_|refine Ze (by first|assumption) ?_|dsimp only))
     rw[f2]
     (with_reducible repeat (first|refine Zl (by first|assumption|omega|rfl|exact B_pos (by omega)) ?_|refine Zk (by first|assumption|omega|decide|exact B_not (by omega)) ?_|refine Ze (by first|assumption) ?_|dsimp only))
     rw[f3]
     (with_reducible repeat (first|refine Zl (by first|assumption|omega|rfl|exact B_pos (by omega)) ?_|refine Zk (by first|assumption|omega|decide|exact B_not (by omega)) ?_|refine Ze (by first|assumption) ?_|dsimp only))
     rw[l3]
     (with_reducible repeat (first|refine Zl (by first|assumption|omega|rfl|exact B_pos (by omega)) ?_|refine Zk (by first|assumption|omega|decide|exact B_not (by omega)) ?_|refine Ze (by first|assumption) ?_|dsimp only))
    ·
     have q2:=hnd q
     (with_reducible repeat (first|refine Zl (by first|assumption|omega|rfl|exact B_pos (by omega)) ?_|refine Zk (by first|assumption|omega|decide|exact B_not (by omega)) ?_|refine Ze (by first|assumption) ?_|dsimp only))
     rw[Int.toNat_natCast,f1]
     (with_reducible repeat (first|refine Zl (by first|assumption|omega|rfl|exact B_pos (by omega)) ?_|refine Zk (by first|assumption|omega|decide|exact B_not (by omega)) ?_|refine Ze (by first|assumption) ?_|dsimp only))
     rw[f2]
     (with_reducible repeat (first|refine Zl (by first|assumption|omega|rfl|exact B_pos (by omega)) ?_|refine Zk (by first|assumption|omega|decide|exact B_not (by omega)) ?_|refine Ze (by first|assumption) ?_|dsimp only))
     rw[f3]
     (with_reducible repeat (first|refine Zl (by first|assumption|omega|rfl|exact B_pos (by omega)) ?_|refine Zk (by first|assumption|omega|decide|exact B_not (by omega)) ?_|refine Ze (by first|assumption) ?_|dsimp only))
     rw[l3]
     (with_reducible repeat (first|refine Zl (by first|assumption|omega|rfl|exact B_pos (by omega)) ?_|refine Zk (by first|assumption|omega|decide|exact B_not (by omega)) ?_|refine Ze (by first|assumption) ?_|dsimp only))
   ·
    have g0:∀k:Nat,k < W→m∣1*rd o (k:Int)+(-eo)*rd nx (k:Int) - rd (mix m 1 o (-eo) nx) (k:Int):=fun k hk=>ZbC (by omega)
    have g1:∀k:Nat,k < W→m∣1*rd v (k:Int)+(-ev)*rd nx (k:Int) - rd (mix m 1 v (-ev) nx) (k:Int):=fun k hk=>ZbC (by omega)
    have g2:∀k:Nat,k < W→m∣md*rd nx (k:Int)+0*rd nx (k:Int) - rd (mix m md nx 0 nx) (k:Int):=fun k hk=>ZbC (by omega)
    have zb:∀(a b:Int) (r:List Int),r.length=W→Zb i r→a*rd r (i:Int)+b*d=0∨a*rd r (i:Int)+b*d=m→Zb (i+1) (mix m a r b nx):=fun a b r hr hz hab k hk=>by
     rw[Zbw (by omega)]
     by_cases e:k=i
     ·
      subst e
      rw[nd]
      rcases hab with hab|hab <;> rw[hab]
      ·
       exact Int.zero_emod m
      ·
       exact Int.emod_self
     ·
      rw[hz k (by omega),nz k (by omega)];simp
    refine h.swap hiW hne nP (fun w hw => ?_) (fun hr => ?_) ?_ ?_ ?_
    ·
     simp only[List.mem_cons,List.not_mem_nil,or_false]at hw
     rcases hw with rfl|rfl|rfl
     ·
      exact⟨⟨by rw[Za4];exact ol,Zb2 (by omega)⟩,zb 1 (-eo) o ol oz (.inl (by rw[heo,Int.neg_mul,Int.mul_comm eo d];omega))⟩
     ·
      exact⟨⟨by rw[Za4];exact hvl,Zb2 (by omega)⟩,zb 1 (-ev) v hvl hzi (.inl (by rw[hev,Int.neg_mul,Int.mul_comm ev d];omega))⟩
     ·
      exact⟨⟨by rw[Za4];exact nl,Zb2 (by omega)⟩,zb md 0 nx nl nz (.inr (by rw[nd,hmd,Int.mul_comm md d];omega))⟩
    ·
     have ho' : o=row p (i:Int):=by
      rcases ho with ⟨e,_⟩|⟨_,e⟩
      ·
       exact absurd e hr
      ·
       exact e
     rw[←ho']
     exact Sp.two (a:=1) (b:=eo) (x:=V (mix m 1 o (-eo) nx)) (y:=V nx) (.gen (.inr ⟨_,List.mem_cons_self ..,rfl⟩)) (.gen (.inl rfl)) fun k hk=>Zi4 (g0 k hk)
    ·
     exact Sp.two (a:=1) (b:=ev) (x:=V (mix m 1 v (-ev) nx)) (y:=V nx) (.gen (.inr ⟨_,List.mem_cons_of_mem _ (List.mem_cons_self ..),rfl⟩)) (.gen (.inl rfl)) fun k hk=>Zi4 (g1 k hk)
    ·
     refine .alike (.gen ⟨_,List.mem_cons_of_mem _ (List.mem_cons_of_mem _ (List.mem_cons_self ..)),rfl⟩) fun k hk => ?_
     obtain⟨q,hq⟩:=g2 k hk
     refine⟨-q,?_⟩
     rw[nd,hmde,Int.mul_neg,←hq]
     show rd (mix m md nx 0 nx) (k:Int) - md*rd nx (k:Int)=_
     omega
    ·
     have hov:∀G:Vc→Prop,(row p (i:Int)≠[]→G (V (row p (i:Int))))→Sp m W G (V o):=fun G hG=>by
      rcases ho with ⟨_,rfl⟩|⟨hr,rfl⟩
      ·
       exact .alike .nil fun k hk=>by
        show m∣0 - rd (List.replicate v.length (0:Int)) (k:Int)
        rw[ZbD];exact⟨0,by omega⟩
      ·
       exact .gen (hG hr)
     have ho2:=hov (fun g=>g=V v∨(row p (i:Int)≠[]∧g=V (row p (i:Int)))) fun hr => .inr ⟨hr,rfl⟩
     have hn2:Sp m W (fun g=>g=V v∨(row p (i:Int)≠[]∧g=V (row p (i:Int)))) (V nx):=Sp.two (a:=x) (b:=y) (x:=V o) (y:=V v) ho2 (.gen (.inl rfl)) fun k hk=>by
      have:m∣x*rd o (k:Int)+y*rd v (k:Int) - rd (mix m x o y v) (k:Int):=ZbC (by omega)
      rwa[←hnx]at this
     intro g hg
     rcases hg with rfl|⟨w,hw,rfl⟩
     ·
      exact hn2
     simp only[List.mem_cons,List.not_mem_nil,or_false]at hw
     rcases hw with rfl|rfl|rfl
     ·
      exact Sp.two (a:=1) (b := -eo) ho2 hn2 fun k hk=>g0 k hk
     ·
      exact Sp.two (a:=1) (b := -ev) (x:=V v) (.gen (.inl rfl)) hn2 fun k hk=>g1 k hk
     ·
      exact Sp.two (a:=md) (b:=0) hn2 hn2 fun k hk=>g2 k hk
   ·
    rw[Zgi hpl hiW,if_pos hiW,ZdM hpl hiW nP.ne,nd]
    unfold dv
    rcases ho with ⟨e,_⟩|⟨hr,e⟩
    ·
     rw[if_pos e];omega
    ·
     rw[if_neg hr,←e]
     have hO:=(h.inv.tab.prow hiW hr).pos
     rw[←e]at hO
     have q2:=hnd (by omega)
     have:d≤rd o (i:Int):=Int.le_of_dvd hO ⟨eo,heo⟩
     by_cases q:d=rd o (i:Int)
     ·
      exact absurd (Zch.2 ⟨ev,by rw[←q];exact hev⟩) q2
     ·
      omega
  have start:∀o:List Int,(row p (i:Int)=[]∧o=List.replicate v.length 0∨row p (i:Int)≠[]∧o=row p (i:Int))→ZA.l0 m p (st++[v])=ZA.j1 v i o m p st:=by
   intro o ho
   rw[ZA.l0_eq,e1,ZeZ,Int.toNat_natCast,Zef,Int.toNat_natCast]
   rcases ho with ⟨e,rfl⟩|⟨hr,rfl⟩
   ·
    have e' : (row p (i:Int)).length=0:=by rw[e];rfl
    ((with_reducible repeat (first|refine Zl (by first|assumption|omega|rfl|exact B_pos (by omega)) ?_|refine Zk (by first|assumption|omega|decide|exact B_not (by omega)) ?_|refine Ze (by first|assumption) ?_|dsimp only));first|done|(with_reducible rfl)|simp (disch:=omega) only[w64]|(show False;done))
   ·
    have e' : 0 < (row p (i:Int)).length:=List.length_pos_iff.2 hr
    ((with_reducible repeat (first|refine Zl (by first|assumption|omega|rfl|exact B_pos (by omega)) ?_|refine Zk (by first|assumption|omega|decide|exact B_not (by omega)) ?_|refine Ze (by first|assumption) ?_|dsimp only));first|done|(with_reducible rfl)|simp (disch:=omega) only[w64]|(show False;done))
  by_cases hr:row p (i:Int)=[]
  ·
   have hs:=start _ (.inl ⟨hr,rfl⟩)
   obtain⟨p', ws,k1,k2,k3,k4⟩:=swap _ (.inl ⟨hr,rfl⟩) (fun q=>absurd (ZbD _ _) q)
   exact .inr ⟨p', ws,hs.trans k1,k2,k3,k4⟩
  have hs:=start _ (.inr ⟨hr,rfl⟩)
  by_cases hd:Int.tmod (rd v (i:Int)) (rd (row p (i:Int)) (i:Int))=0
  rotate_left
  ·
   obtain⟨p', ws,k1,k2,k3,k4⟩:=swap _ (.inr ⟨hr,rfl⟩) (fun _=>hd)
   exact .inr ⟨p', ws,hs.trans k1,k2,k3,k4⟩
  have hP:=h.inv.tab.prow hiW hr
  have pl:=hP.len
  have p0:=hP.pos
  have p1:=hP.lt
  obtain⟨e,he⟩:=Zch.1 hd
  obtain⟨ee0,ee1⟩:=ZcZ p0 he v0 (by omega)
  have c1:=combined m2 m12 (p:=p) (x:=1) (y := -e) hva hP.ent (by omega) (by omega) (by omega) (by omega) (by omega) (by omega)
  have f1:wrapI ((wrapI (0 - rd v (i:Int))).tdiv (rd (row p (i:Int)) (i:Int))) = -e:=by rw[w64 (x:=0 - rd v (i:Int)) (by omega) (by omega),he,ZgO p0,w64 (by omega) (by omega)]
  have hpne:¬ rd (row p (i:Int)) (i:Int)=0:=by omega
  have l1:∀a:List Int,([a]:List (List Int)).length=1:=fun _=>rfl
  have hstep:ZA.j1 v i (row p (i:Int)) m p st=ZA.l0 m p (st++[mix m 1 v (-e) (row p (i:Int))]):=by
   rw[ZA.j1_eq,f1]
   (with_reducible repeat (first|refine Zl (by first|assumption|omega|rfl|exact B_pos (by omega)) ?_|refine Zk (by first|assumption|omega|decide|exact B_not (by omega)) ?_|refine Ze (by first|assumption) ?_|dsimp only))
   rw[l1]
   ((with_reducible repeat (first|refine Zl (by first|assumption|omega|rfl|exact B_pos (by omega)) ?_|refine Zk (by first|assumption|omega|decide|exact B_not (by omega)) ?_|refine Ze (by first|assumption) ?_|dsimp only));first|done|(with_reducible rfl)|simp (disch:=omega) only[w64]|(show False;done))
  have wl:(mix m 1 v (-e) (row p (i:Int))).length=W:=by rw[Za4];exact hvl
  have wz:Zb (i+1) (mix m 1 v (-e) (row p (i:Int))):=fun k hk=>by
   rw[Zbw (by omega)]
   by_cases q:k=i
   ·
    subst q
    rw[he,show 1*(rd (row p (k:Int)) (k:Int)*e) + -e*rd (row p (k:Int)) (k:Int)=0 by rw[Int.neg_mul,Int.mul_comm e];omega]
    exact Int.zero_emod m
   ·
    rw[hzi k (by omega),hP.zero k (by omega)];simp
  have h' := h.less (c:=e) hiW hr hne ⟨wl,Zb2 (by omega)⟩ (fun k hk=>wz k (by omega)) fun k hk=>ZbC (by omega)
  rcases ih (i+1) _ p st (by omega) wz h' hst with ⟨k1,k2⟩|⟨p', ws,k1,k2,k3,k4⟩
  ·
   exact .inl ⟨(hs.trans hstep).trans k1,k2⟩
  ·
   exact .inr ⟨p', ws,(hs.trans hstep).trans k1,k2,k3,k4⟩
theorem put_ {m:Int} (m2:2≤m) (m12:m≤12) {W:Nat} (hW:W≤100000) {M:Vc→Prop} {p:List (List Int)} {r:List Int} (h:Pst m W p [r] M):∃p', ZA.f m p r=some (m,p')∧Pst m W p' [] M:=by
 rw[ZA.f_eq]
 have key:∀(D:Nat) (k:Nat) (p st:List (List Int)),st.length=k→dsum m p W≤D→(st.length:Int)+3*dsum m p W≤100000000→Pst m W p st M→∃p', ZA.l0 m p st=some (m,p')∧Pst m W p' [] M:=by
  intro D
  induction D with
  | zero =>
   intro k
   induction k with
   | zero =>
    intro p st hl _ _ h
    obtain rfl:=List.length_eq_zero_iff.1 hl
    refine⟨p,?_,h⟩
    rw[ZA.l0_eq]
    ((with_reducible repeat (first|refine Zl (by first|assumption|omega|rfl|exact B_pos (by omega)) ?_|refine Zk (by first|assumption|omega|decide|exact B_not (by omega)) ?_|refine Ze (by first|assumption) ?_|dsimp only));first|done|(with_reducible rfl)|simp (disch:=omega) only[w64]|(show False;done))
   | succ k ih =>
    intro p st hl hD hK h
    obtain⟨st', v,rfl⟩:∃st' v,st=st' ++ [v]:=⟨st.dropLast,st.getLast (fun e=>by rw[e]at hl;simp at hl),(List.dropLast_concat_getLast _).symm⟩
    have e0:(st' ++ [v]).length=st'.length+1:=by simp
    obtain⟨s0,_⟩:=ZcS (show 0 < m by omega) h.inv.tab W (Nat.le_refl _)
    rcases put_top m2 m12 hW W 0 v p st' (by omega) (fun i hi=>by omega) h (by omega)with ⟨k1,k2⟩|⟨p', ws,k1,k2,k3,k4⟩
    ·
     rw[k1]
     exact ih p st' (by omega) hD (by omega) k2
    ·
     obtain⟨s1,_⟩:=ZcS (show 0 < m by omega) k3.inv.tab W (Nat.le_refl _)
     omega
  | succ D ihD =>
   intro k
   induction k with
   | zero =>
    intro p st hl _ _ h
    obtain rfl:=List.length_eq_zero_iff.1 hl
    refine⟨p,?_,h⟩
    rw[ZA.l0_eq]
    ((with_reducible repeat (first|refine Zl (by first|assumption|omega|rfl|exact B_pos (by omega)) ?_|refine Zk (by first|assumption|omega|decide|exact B_not (by omega)) ?_|refine Ze (by first|assumption) ?_|dsimp only));first|done|(with_reducible rfl)|simp (disch:=omega) only[w64]|(show False;done))
   | succ k ih =>
    intro p st hl hD hK h
    obtain⟨st', v,rfl⟩:∃st' v,st=st' ++ [v]:=⟨st.dropLast,st.getLast (fun e=>by rw[e]at hl;simp at hl),(List.dropLast_concat_getLast _).symm⟩
    have e0:(st' ++ [v]).length=st'.length+1:=by simp
    obtain⟨s0,_⟩:=ZcS (show 0 < m by omega) h.inv.tab W (Nat.le_refl _)
    rcases put_top m2 m12 hW W 0 v p st' (by omega) (fun i hi=>by omega) h (by omega)with ⟨k1,k2⟩|⟨p', ws,k1,k2,k3,k4⟩
    ·
     rw[k1]
     exact ih p st' (by omega) hD (by omega) k2
    ·
     rw[k1]
     have e1:(st' ++ ws).length=st'.length+3:=by rw[List.length_append,k2]
     exact ihD _ p' (st' ++ ws) rfl (by omega) (by omega) k3
 obtain⟨s0,s1⟩:=ZcS (show 0 < m by omega) h.inv.tab W (Nat.le_refl _)
 have hb:m*(W:Int)≤12*100000:=Int.mul_le_mul (by omega) (by omega) (by omega) (by omega)
 exact key (dsum m p W).toNat 1 p [r] rfl (by omega) (by show(1:Int)+_≤_;omega) h
end Go.Proofs.YtdamfbighdkcbaaGreat.V
namespace Go.Proofs.YtdamfbighdkcbaaGreat.V
open Go.RowKit Go.Proofs.YtdamfbighdkcbaaGreat.D Go.Proofs.YtdamfbighdkcbaaGreat.P
theorem Znb {m:Int} (m2:2≤m) (m12:m≤12) {W:Nat} (hW:W≤100000) {M:Vc→Prop}:∀(n j:Nat) (v:List Int) (p st:List (List Int)),j+n=W→Zb j v→Pst m W p (st++[v]) M→(st.length:Int)+dsum m p W≤1000000000 →
  ∃p' ws,ZC.l1 m v j p st=ZC.l0 m p' (st++ws)∧Pst m W p' (st++ws) M∧(p' = p∧ws=[]∨dsum m p' W < dsum m p W)∧(ws.length:Int)+dsum m p' W≤dsum m p W:=by
 intro n
 induction n with
 | zero =>
  intro j v p st hj hz h hst
  obtain⟨hvl,hva⟩:=h.inv.sts v (List.mem_append_right _ (List.mem_singleton.2 rfl))
  refine⟨p,[],?_,?_,.inl ⟨rfl,rfl⟩,by simp⟩
  ·
   rw[ZC.l1_eq,List.append_nil]
   ((with_reducible repeat (first|refine Zl (by first|assumption|omega|rfl|exact B_pos (by omega)) ?_|refine Zk (by first|assumption|omega|decide|exact B_not (by omega)) ?_|refine Ze (by first|assumption) ?_|dsimp only));first|done|(with_reducible rfl)|simp (disch:=omega) only[w64]|(show False;done))
  ·
   rw[List.append_nil]
   obtain rfl:j=W:=by omega
   exact h.drop hz
 | succ n ih =>
  intro j v p st hj hz h hst
  obtain⟨hvl,hva⟩:=h.inv.sts v (List.mem_append_right _ (List.mem_singleton.2 rfl))
  have hpl:=h.inv.tab.len
  have hjW:j < W:=by omega
  obtain⟨v0,v1⟩:=hva j (by omega) (by omega)
  obtain⟨s0,s1⟩:=ZcS (show 0 < m by omega) h.inv.tab W (Nat.le_refl _)
  by_cases hne:rd v (j:Int)=0
  ·
   obtain⟨p', ws,k1,k2,k3,k4⟩:=ih (j+1) v p st (by omega) (fun i hi=>by
    by_cases e:i=j
    ·
     rw[e];exact hne
    ·
     exact hz i (by omega)) h hst
   refine⟨p', ws,?_,k2,k3,k4⟩
   rw[←k1,ZC.l1_eq,wn (j:=j) (by omega)]
   ((with_reducible repeat (first|refine Zl (by first|assumption|omega|rfl|exact B_pos (by omega)) ?_|refine Zk (by first|assumption|omega|decide|exact B_not (by omega)) ?_|refine Ze (by first|assumption) ?_|dsimp only));first|done|(with_reducible rfl)|simp (disch:=omega) only[w64]|(show False;done))
  have l1:∀a:List Int,([a]:List (List Int)).length=1:=fun _=>rfl
  by_cases hr:row p (j:Int)=[]
  ·
   have e' : ((row p (j:Int)).length:Int)=0:=by rw[hr];rfl
   obtain⟨u,hu,hug,hud,hU⟩:=Unit_ m2 m12 hva (by omega) (by omega) hne
   obtain⟨ui,hui⟩:=ZgQ m2 m12 (by omega) hu.2 hug
   have dm:((Int.gcd (rd v (j:Int)) m:Nat):Int)∣m:=Int.gcd_dvd_right ..
   have dV:((Int.gcd (rd v (j:Int)) m:Nat):Int)∣rd v (j:Int):=Int.gcd_dvd_left ..
   have d0:0 < ((Int.gcd (rd v (j:Int)) m:Nat):Int):=by
    have:0 < Int.gcd (rd v (j:Int)) m:=Int.gcd_pos_of_ne_zero_left _ hne
    omega
   generalize ((Int.gcd (rd v (j:Int)) m:Nat):Int)=d at hud dm dV d0
   have dv1:d≤rd v (j:Int):=Int.le_of_dvd (by omega) dV
   obtain⟨md,hmd⟩:=dm
   obtain⟨md0,md1⟩:=ZcZ d0 hmd (by omega) m12
   have hmde:m / d=md:=by rw[hmd];exact Int.mul_ediv_cancel_left _ (by omega)
   obtain⟨nx,hnx⟩:∃nx,nx=mix m u v 0 v:=⟨_,rfl⟩
   have nl:nx.length=W:=by rw[hnx,Za4,hvl]
   have na:AllIn m nx:=by rw[hnx];exact Zb2 (by omega)
   have nz:Zb j nx:=fun k hk=>by
    rw[hnx,Zbw (by omega),hz k hk];simp
   have nd:rd nx (j:Int)=d:=by
    rw[hnx,Zbw (by omega)]
    have:(u*rd v (j:Int)+0*rd v (j:Int))%m=d%m:=by
     obtain⟨q,hq⟩:=hud
     rw[show u*rd v (j:Int)+0*rd v (j:Int)=d+m*q by omega,Int.add_mul_emod_self_left]
    rw[this,Int.emod_eq_of_lt (by omega) (by omega)]
   have nP:PRow m W j nx:=⟨nl,na,nz,by omega,by omega,by rw[nd];exact⟨md,hmd⟩⟩
   rw[←hnx]at hU
   have hsame:row (p.set j nx) (j:Int)=nx:=ZaD (by omega)
   have hT:T (p.set j nx) (j:Int) (j:Int)=d:=by show rd (row (p.set j nx) (j:Int)) (j:Int)=d;rw[hsame];exact nd
   have hset:(p.set j nx).length=W:=by rw[List.length_set];exact hpl
   have f3:wrapI (Int.tdiv m d)=md:=by rw[hmd,Int.mul_tdiv_cancel_left _ (by omega)];exact w64 (by omega) (by omega)
   have c4:=Mix_ m2 m12 (x:=md) (y:=0) na hva (by omega) (by omega) (by omega) (by omega) (by omega) (by omega)
   have g0:∀k:Nat,k < W→m∣u*rd v (k:Int)+0*rd v (k:Int) - rd nx (k:Int):=fun k hk=>by rw[hnx];exact ZbC (by omega)
   have g2:∀k:Nat,k < W→m∣md*rd nx (k:Int)+0*rd v (k:Int) - rd (mix m md nx 0 v) (k:Int):=fun k hk=>ZbC (by omega)
   have wz:Zb (j+1) (mix m md nx 0 v):=fun k hk=>by
    rw[Zbw (by omega)]
    by_cases e:k=j
    ·
     subst e
     rw[nd,show md*d+0*rd v (k:Int)=m by rw[hmd,Int.mul_comm md d];omega]
     exact Int.emod_self
    ·
     rw[nz k (by omega)];simp
   have hdm:dsum m (p.set j nx) W+1≤dsum m p W:=by
    rw[Zgi hpl hjW,if_pos hjW,ZdM hpl hjW nP.ne,nd]
    unfold dv
    rw[if_pos hr];omega
   refine⟨p.set j nx,[mix m md nx 0 v],?_,?_,.inr (by omega),by rw[l1];omega⟩
   ·
    rw[ZC.l1_eq,Int.toNat_natCast]
    (with_reducible repeat (first|refine Zl (by first|assumption|omega|rfl|exact B_pos (by omega)) ?_|refine Zk (by first|assumption|omega|decide|exact B_not (by omega)) ?_|refine Ze (by first|assumption) ?_|dsimp only))
    rw[hT]
    (with_reducible repeat (first|refine Zl (by first|assumption|omega|rfl|exact B_pos (by omega)) ?_|refine Zk (by first|assumption|omega|decide|exact B_not (by omega)) ?_|refine Ze (by first|assumption) ?_|dsimp only))
    rw[hsame,f3]
    (with_reducible repeat (first|refine Zl (by first|assumption|omega|rfl|exact B_pos (by omega)) ?_|refine Zk (by first|assumption|omega|decide|exact B_not (by omega)) ?_|refine Ze (by first|assumption) ?_|dsimp only))
    rw[l1]
    ((with_reducible repeat (first|refine Zl (by first|assumption|omega|rfl|exact B_pos (by omega)) ?_|refine Zk (by first|assumption|omega|decide|exact B_not (by omega)) ?_|refine Ze (by first|assumption) ?_|dsimp only));first|done|(with_reducible rfl)|simp (disch:=omega) only[w64]|(show False;done))
   ·
    refine h.swap hjW hne nP (fun w hw => ?_) (fun q=>absurd hr q) ?_ ?_ ?_
    ·
     rw[List.mem_singleton]at hw
     subst hw
     exact⟨⟨by rw[Za4];exact nl,Zb2 (by omega)⟩,wz⟩
    ·
     refine Sp.two (a:=ui) (b:=0) (x:=V nx) (y:=V nx) (.gen (.inl rfl)) (.gen (.inl rfl)) fun k hk => ?_
     obtain⟨q,hq⟩:=g0 k hk
     obtain⟨t,ht⟩:=hui
     refine⟨t*rd v (k:Int) - ui*q,?_⟩
     show ui*rd nx (k:Int)+0*rd nx (k:Int) - rd v (k:Int)=_
     have e1:rd nx (k:Int)=u*rd v (k:Int) - m*q:=by omega
     have e2:ui*(u*rd v (k:Int))=m*(t*rd v (k:Int))+rd v (k:Int):=by
      rw[←Int.mul_assoc,Int.mul_comm ui u,show u*ui=m*t+1 by omega,Int.add_mul,Int.mul_assoc];omega
     have e3:ui*(m*q)=m*(ui*q):=by rw[←Int.mul_assoc,Int.mul_comm ui m,Int.mul_assoc]
     rw[e1,Int.zero_mul,Int.mul_sub,Int.mul_sub,e2,e3]
     omega
    ·
     refine .alike (.gen ⟨_,List.mem_singleton.2 rfl,rfl⟩) fun k hk => ?_
     obtain⟨q,hq⟩:=g2 k hk
     refine⟨-q,?_⟩
     rw[nd,hmde,Int.mul_neg,←hq]
     show rd (mix m md nx 0 v) (k:Int) - md*rd nx (k:Int)=_
     omega
    ·
     have hn2:Sp m W (fun g=>g=V v∨(row p (j:Int)≠[]∧g=V (row p (j:Int)))) (V nx):=Sp.two (a:=u) (b:=0) (x:=V v) (y:=V v) (.gen (.inl rfl)) (.gen (.inl rfl)) fun k hk=>g0 k hk
     intro g hg
     rcases hg with rfl|⟨w,hw,rfl⟩
     ·
      exact hn2
     rw[List.mem_singleton]at hw
     subst hw
     exact Sp.two (a:=md) (b:=0) (x:=V nx) (y:=V v) hn2 (.gen (.inl rfl)) fun k hk=>g2 k hk
  have e' : ¬ ((row p (j:Int)).length:Int)=0:=by have:=List.length_pos_iff.2 hr;omega
  have hP:=h.inv.tab.prow hjW hr
  have pl:=hP.len
  have p0:=hP.pos
  have p1:=hP.lt
  have hT:T p (j:Int) (j:Int)=rd (row p (j:Int)) (j:Int):=rfl
  have hpne:¬ rd (row p (j:Int)) (j:Int)=0:=by omega
  by_cases hd:Int.tmod (rd v (j:Int)) (rd (row p (j:Int)) (j:Int))=0
  ·
   obtain⟨e,he⟩:=Zch.1 hd
   obtain⟨ee0,ee1⟩:=ZcZ p0 he v0 (by omega)
   have c1:=Mix_ m2 m12 (x:=1) (y := -e) hva hP.ent (by omega) (by omega) (by omega) (by omega) (by omega) (by omega)
   have f1:wrapI (0 - wrapI ((rd v (j:Int)).tdiv (rd (row p (j:Int)) (j:Int)))) = -e:=by
    rw[he,Int.mul_tdiv_cancel_left _ (by omega),w64 (x:=e) (by omega) (by omega),w64 (by omega) (by omega)];omega
   have wl:(mix m 1 v (-e) (row p (j:Int))).length=W:=by rw[Za4];exact hvl
   have wz:Zb (j+1) (mix m 1 v (-e) (row p (j:Int))):=fun k hk=>by
    rw[Zbw (by omega)]
    by_cases q:k=j
    ·
     subst q
     rw[he,show 1*(rd (row p (k:Int)) (k:Int)*e) + -e*rd (row p (k:Int)) (k:Int)=0 by rw[Int.neg_mul,Int.mul_comm e];omega]
     exact Int.zero_emod m
    ·
     rw[hz k (by omega),hP.zero k (by omega)];simp
   have h' := h.less (c:=e) hjW hr hne ⟨wl,Zb2 (by omega)⟩ (fun k hk=>wz k (by omega)) fun k hk=>ZbC (by omega)
   obtain⟨p', ws,k1,k2,k3,k4⟩:=ih (j+1) _ p st (by omega) wz h' hst
   refine⟨p', ws,?_,k2,k3,k4⟩
   rw[←k1,ZC.l1_eq,wn (j:=j) (by omega),hT,f1]
   ((with_reducible repeat (first|refine Zl (by first|assumption|omega|rfl|exact B_pos (by omega)) ?_|refine Zk (by first|assumption|omega|decide|exact B_not (by omega)) ?_|refine Ze (by first|assumption) ?_|dsimp only));first|done|(with_reducible rfl)|simp (disch:=omega) only[w64]|(show False;done))
  obtain⟨o,ho⟩:∃o,o=row p (j:Int):=⟨_,rfl⟩
  obtain⟨s,t,hbz,hst', hs,ht⟩:=ZhJ (a:=rd o (j:Int)) (b:=rd v (j:Int)) (by rw[ho];omega) (by rw[ho];omega) v0 (by omega)
  have dO:((Int.gcd (rd o (j:Int)) (rd v (j:Int)):Nat):Int)∣rd o (j:Int):=Int.gcd_dvd_left ..
  have dV:((Int.gcd (rd o (j:Int)) (rd v (j:Int)):Nat):Int)∣rd v (j:Int):=Int.gcd_dvd_right ..
  have d0:0 < ((Int.gcd (rd o (j:Int)) (rd v (j:Int)):Nat):Int):=by
   have:0 < Int.gcd (rd o (j:Int)) (rd v (j:Int)):=Int.gcd_pos_of_ne_zero_right _ hne
   omega
  generalize ((Int.gcd (rd o (j:Int)) (rd v (j:Int)):Nat):Int)=d at hbz hst' dO dV d0
  rw[←ho]at hP pl p0 p1 hT hpne hd
  have dv1:d≤rd v (j:Int):=Int.le_of_dvd (by omega) dV
  have dm:d∣m:=Int.dvd_trans dO hP.dvd
  obtain⟨eo,heo⟩:=dO
  obtain⟨ev,hev⟩:=dV
  obtain⟨eo0,eo1⟩:=ZcZ d0 heo (by omega) (by omega)
  obtain⟨ev0,ev1⟩:=ZcZ d0 hev v0 (by omega)
  obtain⟨md,hmd⟩:=dm
  obtain⟨md0,md1⟩:=ZcZ d0 hmd (by omega) m12
  have hmde:m / d=md:=by rw[hmd];exact Int.mul_ediv_cancel_left _ (by omega)
  have hunit:s*eo+t*ev=1:=by
   have h1:d*(s*eo+t*ev)=d*1:=by
    rw[Int.mul_add,Int.mul_one,←Int.mul_assoc,←Int.mul_assoc,Int.mul_comm d s,Int.mul_comm d t,Int.mul_assoc,Int.mul_assoc,←heo,←hev];exact hst'
   exact Int.eq_of_mul_eq_mul_left (by omega) h1
  obtain⟨nx,hnx⟩:∃nx,nx=mix m s o t v:=⟨_,rfl⟩
  obtain⟨ny,hny⟩:∃ny,ny=mix m ev o (-eo) v:=⟨_,rfl⟩
  have oz:Zb j o:=hP.zero
  have c1:=Mix_ m2 m12 (x:=ev) (y := -eo) hP.ent hva (by omega) (by omega) (by omega) (by omega) (by omega) (by omega)
  have c2:=Mix_ m2 m12 (x:=s) (y:=t) hP.ent hva (by omega) (by omega) hs.1 hs.2 ht.1 ht.2
  rw[←hny]at c1
  rw[←hnx]at c2
  have nl:nx.length=W:=by rw[hnx,Za4,pl]
  have yl:ny.length=W:=by rw[hny,Za4,pl]
  have na:AllIn m nx:=by rw[hnx];exact Zb2 (by omega)
  have ya:AllIn m ny:=by rw[hny];exact Zb2 (by omega)
  have nz:Zb j nx:=fun k hk=>by
   rw[hnx,Zbw (by omega),oz k hk,hz k hk];simp
  have nd:rd nx (j:Int)=d:=by
   rw[hnx,Zbw (by omega),hst', Int.emod_eq_of_lt (by omega) (by omega)]
  have yz:Zb (j+1) ny:=fun k hk=>by
   rw[hny,Zbw (by omega)]
   by_cases q:k=j
   ·
    subst q
    rw[heo,hev,show ev*(d*eo) + -eo*(d*ev)=0 by rw[Int.neg_mul,←Int.mul_assoc,←Int.mul_assoc,Int.mul_comm ev d,Int.mul_comm eo d,Int.mul_assoc,Int.mul_assoc,Int.mul_comm ev eo];omega]
    exact Int.zero_emod m
   ·
    rw[hz k (by omega),oz k (by omega)];simp
  have nP:PRow m W j nx:=⟨nl,na,nz,by omega,by omega,by rw[nd];exact⟨md,hmd⟩⟩
  have hsame:row (p.set j nx) (j:Int)=nx:=ZaD (by omega)
  have hset:(p.set j nx).length=W:=by rw[List.length_set];exact hpl
  have c4:=Mix_ m2 m12 (x:=md) (y:=0) na hva (by omega) (by omega) (by omega) (by omega) (by omega) (by omega)
  have f1:wrapI ((rd v (j:Int)).tdiv d)=ev:=by rw[hev,Int.mul_tdiv_cancel_left _ (by omega)];exact w64 (by omega) (by omega)
  have f2:wrapI (0 - wrapI ((rd o (j:Int)).tdiv d)) = -eo:=by rw[heo,Int.mul_tdiv_cancel_left _ (by omega),w64 (x:=eo) (by omega) (by omega),w64 (by omega) (by omega)];omega
  have f3:wrapI (Int.tdiv m d)=md:=by rw[hmd,Int.mul_tdiv_cancel_left _ (by omega)];exact w64 (by omega) (by omega)
  obtain⟨nw,hnw⟩:∃nw,nw=mix m md nx 0 v:=⟨_,rfl⟩
  have wl:nw.length=W:=by rw[hnw,Za4,nl]
  have wa:AllIn m nw:=by rw[hnw];exact Zb2 (by omega)
  have wz:Zb (j+1) nw:=fun k hk=>by
   rw[hnw,Zbw (by omega)]
   by_cases e:k=j
   ·
    subst e
    rw[nd,show md*d+0*rd v (k:Int)=m by rw[hmd,Int.mul_comm md d];omega]
    exact Int.emod_self
   ·
    rw[nz k (by omega)];simp
  rw[←hnw]at c4
  have g0:∀k:Nat,k < W→m∣s*rd o (k:Int)+t*rd v (k:Int) - rd nx (k:Int):=fun k hk=>by rw[hnx];exact ZbC (by omega)
  have g1:∀k:Nat,k < W→m∣ev*rd o (k:Int)+(-eo)*rd v (k:Int) - rd ny (k:Int):=fun k hk=>by rw[hny];exact ZbC (by omega)
  have g2:∀k:Nat,k < W→m∣md*rd nx (k:Int)+0*rd v (k:Int) - rd nw (k:Int):=fun k hk=>by rw[hnw];exact ZbC (by omega)
  have hdm:dsum m (p.set j nx) W+1≤dsum m p W:=by
   rw[Zgi hpl hjW,if_pos hjW,ZdM hpl hjW nP.ne,nd]
   unfold dv
   rw[if_neg hr,←ho]
   have:d≤rd o (j:Int):=Int.le_of_dvd p0 ⟨eo,heo⟩
   by_cases q:d=rd o (j:Int)
   ·
    exact absurd (Zch.2 ⟨ev,by rw[←q];exact hev⟩) hd
   ·
    omega
  have hsw:Pst m W (p.set j nx) (st++[nw,ny]) M:=by
   refine h.swap hjW hne nP (fun w hw => ?_) (fun q => ?_) ?_ ?_ ?_
   ·
    simp only[List.mem_cons,List.not_mem_nil,or_false]at hw
    rcases hw with rfl|rfl
    ·
     exact⟨⟨wl,wa⟩,wz⟩
    ·
     exact⟨⟨yl,ya⟩,yz⟩
   ·
    rw[←ho]
    refine Sp.two (a:=eo) (b:=t) (x:=V nx) (y:=V ny) (.gen (.inl rfl)) (.gen (.inr ⟨_,List.mem_cons_of_mem _ (List.mem_cons_self ..),rfl⟩)) fun k hk => ?_
    obtain⟨q0,h0⟩:=g0 k hk
    obtain⟨q1,h1⟩:=g1 k hk
    refine⟨-(eo*q0) - t*q1,?_⟩
    show eo*rd nx (k:Int)+t*rd ny (k:Int) - rd o (k:Int)=_
    have e0:rd nx (k:Int)=s*rd o (k:Int)+t*rd v (k:Int) - m*q0:=by omega
    have e1:rd ny (k:Int)=ev*rd o (k:Int)+(-eo)*rd v (k:Int) - m*q1:=by omega
    rw[e0,e1]
    have e2:rd o (k:Int)=(s*eo+t*ev)*rd o (k:Int):=by rw[hunit];omega
    generalize rd o (k:Int)=A at e2 ⊢
    generalize rd v (k:Int)=C
    have e3:eo*(s*A+t*C - m*q0)+t*(ev*A + -eo*C - m*q1) - A=(s*eo+t*ev)*A - A+m*(-(eo*q0) - t*q1):=by
     simp only[Int.mul_sub,Int.mul_add,Int.add_mul,Int.neg_mul,Int.mul_neg,←Int.mul_assoc]
     rw[Int.mul_comm eo s,Int.mul_comm eo t,Int.mul_comm eo m,Int.mul_comm t m]
     omega
    rw[e3,←e2];omega
   ·
    refine Sp.two (a:=ev) (b := -s) (x:=V nx) (y:=V ny) (.gen (.inl rfl)) (.gen (.inr ⟨_,List.mem_cons_of_mem _ (List.mem_cons_self ..),rfl⟩)) fun k hk => ?_
    obtain⟨q0,h0⟩:=g0 k hk
    obtain⟨q1,h1⟩:=g1 k hk
    refine⟨-(ev*q0)+s*q1,?_⟩
    show ev*rd nx (k:Int) + -s*rd ny (k:Int) - rd v (k:Int)=_
    have e0:rd nx (k:Int)=s*rd o (k:Int)+t*rd v (k:Int) - m*q0:=by omega
    have e1:rd ny (k:Int)=ev*rd o (k:Int)+(-eo)*rd v (k:Int) - m*q1:=by omega
    rw[e0,e1]
    have e2:rd v (k:Int)=(s*eo+t*ev)*rd v (k:Int):=by rw[hunit];omega
    generalize rd v (k:Int)=C at e2 ⊢
    generalize rd o (k:Int)=A
    have e3:ev*(s*A+t*C - m*q0) + -s*(ev*A + -eo*C - m*q1) - C=(s*eo+t*ev)*C - C+m*(-(ev*q0)+s*q1):=by
     simp only[Int.mul_sub,Int.mul_add,Int.add_mul,Int.neg_mul,Int.mul_neg,←Int.mul_assoc]
     rw[Int.mul_comm ev s,Int.mul_comm ev t,Int.mul_comm ev m,Int.mul_comm s m]
     omega
    rw[e3,←e2];omega
   ·
    refine .alike (.gen ⟨_,List.mem_cons_self ..,rfl⟩) fun k hk => ?_
    obtain⟨q,hq⟩:=g2 k hk
    refine⟨-q,?_⟩
    rw[nd,hmde,Int.mul_neg,←hq]
    show rd nw (k:Int) - md*rd nx (k:Int)=_
    omega
   ·
    rw[←ho]
    have hO:Sp m W (fun g=>g=V v∨(o≠[]∧g=V o)) (V o) := .gen (.inr ⟨hP.ne,rfl⟩)
    have hn2:Sp m W (fun g=>g=V v∨(o≠[]∧g=V o)) (V nx):=Sp.two (a:=s) (b:=t) (x:=V o) (y:=V v) hO (.gen (.inl rfl)) fun k hk=>g0 k hk
    intro g hg
    rcases hg with rfl|⟨w,hw,rfl⟩
    ·
     exact hn2
    simp only[List.mem_cons,List.not_mem_nil,or_false]at hw
    rcases hw with rfl|rfl
    ·
     exact Sp.two (a:=md) (b:=0) (x:=V nx) (y:=V v) hn2 (.gen (.inl rfl)) fun k hk=>g2 k hk
    ·
     exact Sp.two (a:=ev) (b := -eo) (x:=V o) (y:=V v) hO (.gen (.inl rfl)) fun k hk=>g1 k hk
  rw[show st++[nw,ny]=(st++[nw])++[ny]by simp]at hsw
  have sl:(st++[nw]).length=st.length+1:=by simp
  obtain⟨p', ws,k1,k2,k3,k4⟩:=ih (j+1) ny (p.set j nx) (st++[nw]) (by omega) yz hsw (by omega)
  refine⟨p', nw :: ws,?_,by rw[show st++nw :: ws=(st++[nw])++ws by simp];exact k2,.inr ?_,by rw[List.length_cons];omega⟩
  ·
   rw[show st++nw :: ws=(st++[nw])++ws by simp,←k1,ZC.l1_eq,wn (j:=j) (by omega),hT,Int.toNat_natCast]
   rw[←ho]at e' ⊢
   (with_reducible repeat (first|refine Zl (by first|assumption|omega|rfl|exact B_pos (by omega)) ?_|refine Zk (by first|assumption|omega|decide|exact B_not (by omega)) ?_|refine Ze (by first|assumption) ?_|dsimp only))
   rw[f1,f2]
   (with_reducible repeat (first|refine Zl (by first|assumption|omega|rfl|exact B_pos (by omega)) ?_|refine Zk (by first|assumption|omega|decide|exact B_not (by omega)) ?_|refine Ze (by first|assumption) ?_|dsimp only))
   rw[hsame,f3]
   (with_reducible repeat (first|refine Zl (by first|assumption|omega|rfl|exact B_pos (by omega)) ?_|refine Zk (by first|assumption|omega|decide|exact B_not (by omega)) ?_|refine Ze (by first|assumption) ?_|dsimp only))
   rw[l1]
   ((with_reducible repeat (first|refine Zl (by first|assumption|omega|rfl|exact B_pos (by omega)) ?_|refine Zk (by first|assumption|omega|decide|exact B_not (by omega)) ?_|refine Ze (by first|assumption) ?_|dsimp only));first|done|(with_reducible rfl)|simp (disch:=omega) only[w64]|(show False;done))
  ·
   omega
theorem ZmQ {m:Int} (m2:2≤m) (m12:m≤12) {W:Nat} (hW:W≤100000) {M:Vc→Prop} {p:List (List Int)} {r:List Int} (h:Pst m W p [r] M):∃p', ZC.f p r m=some p' ∧ Pst m W p' [] M:=by
 rw[ZC.f_eq]
 have key:∀(D:Nat) (k:Nat) (p st:List (List Int)),st.length=k→dsum m p W≤D→(st.length:Int)+dsum m p W≤100000000→Pst m W p st M→∃p', ZC.l0 m p st=some p' ∧ Pst m W p' [] M:=by
  intro D
  induction D using Nat.strongRecOn with
  | _ D ihD =>
   intro k
   induction k with
   | zero =>
    intro p st hl _ _ h
    obtain rfl:=List.length_eq_zero_iff.1 hl
    refine⟨p,?_,h⟩
    rw[ZC.l0_eq]
    ((with_reducible repeat (first|refine Zl (by first|assumption|omega|rfl|exact B_pos (by omega)) ?_|refine Zk (by first|assumption|omega|decide|exact B_not (by omega)) ?_|refine Ze (by first|assumption) ?_|dsimp only));first|done|(with_reducible rfl)|simp (disch:=omega) only[w64]|(show False;done))
   | succ k ih =>
    intro p st hl hD hK h
    obtain⟨st', v,rfl⟩:∃st' v,st=st' ++ [v]:=⟨st.dropLast,st.getLast (fun e=>by rw[e]at hl;simp at hl),(List.dropLast_concat_getLast _).symm⟩
    have e0:(st' ++ [v]).length=st'.length+1:=by simp
    have e1:wrapI (((st' ++ [v]).length:Int) - 1)=(st'.length:Int):=by
     obtain⟨s0,_⟩:=ZcS (show 0 < m by omega) h.inv.tab W (Nat.le_refl _)
     rw[w64 (by omega) (by omega)];omega
    obtain⟨s0,_⟩:=ZcS (show 0 < m by omega) h.inv.tab W (Nat.le_refl _)
    have st1:ZC.l0 m p (st' ++ [v])=ZC.l1 m v 0 p st' := by
     rw[ZC.l0_eq,e1,ZeZ,Int.toNat_natCast,Zef]
     ((with_reducible repeat (first|refine Zl (by first|assumption|omega|rfl|exact B_pos (by omega)) ?_|refine Zk (by first|assumption|omega|decide|exact B_not (by omega)) ?_|refine Ze (by first|assumption) ?_|dsimp only));first|done|(with_reducible rfl)|simp (disch:=omega) only[w64]|(show False;done))
    obtain⟨p', ws,k1,k2,k3,k4⟩:=Znb m2 m12 hW W 0 v p st' (by omega) (fun i hi=>by omega) h (by omega)
    rw[st1,show(0:Int)=((0:Nat):Int)from rfl,k1]
    rcases k3 with ⟨rfl,rfl⟩|k3
    ·
     rw[List.append_nil]at k2 ⊢
     exact ih p' st' (by omega) hD (by omega) k2
    ·
     obtain⟨s1,_⟩:=ZcS (show 0 < m by omega) k2.inv.tab W (Nat.le_refl _)
     have e2:(st' ++ ws).length=st'.length+ws.length:=List.length_append
     exact ihD (dsum m p' W).toNat (by omega) _ p' (st' ++ ws) rfl (by omega) (by omega) k2
 obtain⟨s0,s1⟩:=ZcS (show 0 < m by omega) h.inv.tab W (Nat.le_refl _)
 have hb:m*(W:Int)≤12*100000:=Int.mul_le_mul (by omega) (by omega) (by omega) (by omega)
 exact key (dsum m p W).toNat 1 p [r] rfl (by omega) (by show(1:Int)+_≤_;omega) h
end Go.Proofs.YtdamfbighdkcbaaGreat.V
namespace Go.Proofs.YtdamfbighdkcbaaGreat.V
open Go.RowKit Go.Proofs.YtdamfbighdkcbaaGreat.D Go.Proofs.YtdamfbighdkcbaaGreat.P
section
variable {m:Int} {W:Nat} {p:List (List Int)} {M:Vc→Prop} {G G' : Vc→Prop}
theorem Pst.lead (m0:0 < m) (h:Pst m W p [] M):Lead m W p M:=by
 have e:∀k g,GT W p [] k g→Sp m W (Rws W p k) g:=fun k g hg=>by
  rcases hg with hg|⟨s,hs,_⟩
  ·
   exact .gen hg
  ·
   cases hs
 exact Zne m0 h.inv.tab (fun j hj hr=>(h.inv.how j hj hr).mono (e _)) fun x=>by
  rw[←h.spn x]
  exact⟨fun hx=>hx.mono fun g hg => .gen (.inl hg),fun hx=>hx.mono (e 0)⟩
theorem Pst.add {r:List Int} (h:Pst m W p [] (Sp m W G)) (hr:r.length=W∧AllIn m r) (hG:∀g,G' g↔G g∨g=V r):Pst m W p [r] (Sp m W G') where
 inv:=⟨h.inv.tab,fun s hs=>by rw[List.mem_singleton]at hs;subst hs;exact hr,fun j hj hn=>(h.inv.how j hj hn).mono fun g hg=>by
  rcases hg with hg|⟨s,hs,_⟩
  ·
   exact .gen (.inl hg)
  ·
   cases hs⟩
 spn := fun x=>by
  constructor
  ·
   intro hx
   refine hx.mono fun g hg => ?_
   rcases hg with hg|⟨s,hs,_,rfl⟩
   ·
    exact((h.spn g).1 (.gen (.inl hg))).mono fun g hg => .gen ((hG g).2 (.inl hg))
   ·
    rw[List.mem_singleton]at hs
    subst hs
    exact .gen ((hG _).2 (.inr rfl))
  ·
   intro hx
   refine hx.mono fun g hg => ?_
   rcases(hG g).1 hg with hg|rfl
   ·
    refine((h.spn g).2 (.gen hg)).mono fun g hg => ?_
    rcases hg with hg|⟨s,hs,_⟩
    ·
     exact .gen (.inl hg)
    ·
     cases hs
   ·
    exact .gen (.inr ⟨r,List.mem_singleton.2 rfl,fun i hi=>by omega,rfl⟩)
theorem ZgF (n:Nat) (i:Int):row (List.replicate n ([]:List Int)) i=[]:=by
 simp only[row,List.getD_eq_getElem?_getD,List.getElem?_replicate]
 split <;> rfl
theorem Pst.none (hG:∀g,¬ G g):Pst m W (List.replicate W []) [] (Sp m W G) where
 inv:=⟨⟨List.length_replicate,fun j _ => .inl (ZgF _ _)⟩,fun s hs=>(by cases hs),fun j _ hn=>absurd (ZgF _ _) hn⟩
 spn:=fun x=>by
  constructor
  ·
   intro hx
   refine hx.mono fun g hg => ?_
   rcases hg with ⟨j,_,_,hn,_⟩|⟨s,hs,_⟩
   ·
    exact absurd (ZgF _ _) hn
   ·
    cases hs
  ·
   intro hx
   exact hx.mono fun g hg=>absurd hg (hG g)
def Gn (f:Nat→List Int) (k:Nat):Vc→Prop:=fun g=>∃i:Nat,i < k∧g=V (f i)
theorem ZhK {f:Nat→List Int} {k:Nat} (g:Vc):Gn f (k+1) g↔Gn f k g∨g=V (f k):=by
 constructor
 ·
  rintro⟨i,hi,rfl⟩
  by_cases e:i=k
  ·
   exact .inr (by rw[e])
  ·
   exact .inl ⟨i,by omega,rfl⟩
 ·
  rintro(⟨i,hi,rfl⟩|rfl)
  ·
   exact⟨i,by omega,rfl⟩
  ·
   exact⟨k,by omega,rfl⟩
theorem Ziy (m2:2≤m) (m12:m≤12) (hW:W≤100000) {X:List (List Int)} (hX:X.length≤1000000) (hr:∀i:Nat,i < X.length→(row X (i:Int)).length=W∧AllIn m (row X (i:Int))) :
  ∃p,ZQ.f X (W:Int) m=some p∧Pst m W p [] (Sp m W (Gn (fun i=>row X (i:Int)) X.length)):=by
 rw[ZQ.f_eq,Int.toNat_natCast]
 have key:∀k,k≤X.length→∃p,ZQ.l0 X m 0 (List.replicate W [])=ZQ.l0 X m (k:Int) p∧Pst m W p [] (Sp m W (Gn (fun i=>row X (i:Int)) k)):=by
  intro k
  induction k with
  | zero=>exact fun _=>⟨_,rfl,Pst.none fun g ⟨i,hi,_⟩=>by omega⟩
  | succ k ih =>
   intro hk
   obtain⟨p,h1,h2⟩:=ih (by omega)
   obtain⟨p', h3,h4⟩:=ZmQ m2 m12 hW (h2.add (hr k (by omega)) ZhK)
   refine⟨p', ?_,h4⟩
   rw[h1,ZQ.l0_eq,wn (j:=k) (by omega)]
   ((with_reducible repeat (first|refine Zl (by first|assumption|omega|rfl|exact B_pos (by omega)) ?_|refine Zk (by first|assumption|omega|decide|exact B_not (by omega)) ?_|refine Ze (by first|assumption) ?_|dsimp only));first|done|(with_reducible rfl)|simp (disch:=omega) only[w64]|(show False;done))
 obtain⟨p,h1,h2⟩:=key X.length (Nat.le_refl _)
 refine⟨p,?_,h2⟩
 (with_reducible repeat (first|refine Zl (by first|assumption|omega|rfl|exact B_pos (by omega)) ?_|refine Zk (by first|assumption|omega|decide|exact B_not (by omega)) ?_|refine Ze (by first|assumption) ?_|dsimp only))
 rw[h1,ZQ.l0_eq]
 ((with_reducible repeat (first|refine Zl (by first|assumption|omega|rfl|exact B_pos (by omega)) ?_|refine Zk (by first|assumption|omega|decide|exact B_not (by omega)) ?_|refine Ze (by first|assumption) ?_|dsimp only));first|done|(with_reducible rfl)|simp (disch:=omega) only[w64]|(show False;done))
theorem ZgC {r:List Int} {A i:Nat} (h:i < A):rd (r.take A) (i:Int)=rd r (i:Int):=by
 simp[rd,List.getD_eq_getElem?_getD,List.getElem?_take,h]
theorem ZgB {r:List Int} {A i:Nat}:rd (r.drop A) (i:Int)=rd r ((A+i:Nat):Int):=by
 simp only[rd,Int.toNat_natCast,List.getD_eq_getElem?_getD,List.getElem?_drop]
theorem Lead.first {A B:Nat} {q:List (List Int)} (h:Lead m (A+B) p M) (m0:0 < m) (hl:q.length=A) (hr:∀j:Nat,j < A→row q (j:Int)=(row p (j:Int)).take A) :
    Lead m A q (fun x=>∃y,M y∧∀i,i < A→m∣y i - x i):=by
  have hP:∀j:Nat,j < A→row p (j:Int)≠[]→PRow m A j (row q (j:Int)):=fun j hj hn=>by
    have k:=h.tab.prow (show j < A+B by omega) hn
    rw[hr j hj]
    refine⟨by rw[List.length_take,k.len];omega,k.ent.take _,fun i hi=>by rw[ZgC (by omega)];exact k.zero i hi,?_,?_,?_⟩ <;> rw[ZgC hj]
    · exact k.pos
    · exact k.lt
    · exact k.dvd
  have hE:∀j:Nat,j < A→(row q (j:Int)=[]↔row p (j:Int)=[]):=fun j hj=>by
    constructor
    · intro e
      by_cases hn:row p (j:Int)=[]
      · exact hn
      · exact absurd e (hP j hj hn).ne
    · intro e;rw[hr j hj,e];simp
  have hdv:∀j:Nat,j < A→dv m q j=dv m p j:=fun j hj=>by
    unfold dv
    by_cases hn:row p (j:Int)=[]
    · rw[if_pos hn,if_pos ((hE j hj).2 hn)]
    · rw[if_neg hn,if_neg fun e=>hn ((hE j hj).1 e),hr j hj,ZgC hj]
  exact {
    tab:=⟨hl,fun j hj=>by
      by_cases hn:row p (j:Int)=[]
      · exact .inl ((hE j hj).2 hn)
      · exact .inr (hP j hj hn)⟩
    sub := ⟨⟨_,h.sub.zero,fun i _=>Zaw rfl⟩,fun x y ⟨x', hx,ex⟩ ⟨y', hy,ey⟩ c=>⟨_,h.sub.lin _ _ hx hy c,fun i hi=>by
      have:=Int.dvd_add (ex i hi) (Int.dvd_mul_of_dvd_right (b:=c) (ey i hi))
      rw[Int.mul_sub]at this
      rwa[show ∀a b c d:Int,a+c - (b+d)=a - b+(c - d)from fun a b c d=>by omega]⟩,
      fun x y ⟨x', hx,ex⟩ e=>⟨x', hx,fun i hi=>by
        have:=Int.dvd_add (ex i hi) (e i hi)
        rwa[show ∀a b c:Int,a - b+(b - c)=a - c from fun a b c=>by omega]at this⟩⟩
    own:=fun j hj hn=>⟨V (row p (j:Int)),h.own j (by omega) fun e=>hn ((hE j hj).2 e),fun i hi=>by
      refine Zaw ?_
      show rd (row p (j:Int)) (i:Int)=rd (row q (j:Int)) (i:Int)
      rw[hr j hj,ZgC hi]⟩
    lead:=fun x ⟨y,hy,e⟩ j hj hz=>by
      have:=h.lead y hy j (by omega) fun i hi=>by
        have:=Int.dvd_add (e i (by omega)) (hz i hi)
        rwa[show ∀a b:Int,a - b+b=a from fun a b=>by omega]at this
      rw[hdv j hj]
      have hd:=(dv_bd m0 h.tab (show j < A+B by omega)).2.2
      have:=Int.dvd_sub this (Int.dvd_trans hd (e j hj))
      rwa[show ∀a b:Int,a - (a - b)=b from fun a b=>by omega]at this }
def pad (A:Nat) (x:Vc):Vc:=fun i=>if i < A then 0 else x (i - A)
theorem Lead.last {A B:Nat} {q:List (List Int)} (h:Lead m (A+B) p M) (m0:0 < m) (hl:q.length=B) (hr:∀j:Nat,j < B→row q (j:Int)=(row p ((A+j:Nat):Int)).drop A) :
    Lead m B q (fun x=>M (pad A x)):=by
  have hP:∀j:Nat,j < B→row p ((A+j:Nat):Int)≠[]→PRow m B j (row q (j:Int)):=fun j hj hn=>by
    have k:=h.tab.prow (show A+j < A+B by omega) hn
    rw[hr j hj]
    refine⟨by rw[List.length_drop,k.len];omega,k.ent.drop _,fun i hi=>by rw[ZgB];exact k.zero _ (by omega),?_,?_,?_⟩ <;> rw[ZgB]
    · exact k.pos
    · exact k.lt
    · exact k.dvd
  have hE:∀j:Nat,j < B→(row q (j:Int)=[]↔row p ((A+j:Nat):Int)=[]):=fun j hj=>by
    constructor
    · intro e
      by_cases hn:row p ((A+j:Nat):Int)=[]
      · exact hn
      · exact absurd e (hP j hj hn).ne
    · intro e;rw[hr j hj,e];simp
  have hdv:∀j:Nat,j < B→dv m q j=dv m p (A+j):=fun j hj=>by
    unfold dv
    by_cases hn:row p ((A+j:Nat):Int)=[]
    · rw[if_pos hn,if_pos ((hE j hj).2 hn)]
    · rw[if_neg hn,if_neg fun e=>hn ((hE j hj).1 e),hr j hj,ZgB]
  have hpad:∀(x y:Vc) (c:Int),pad A (fun i=>x i+c*y i)=fun i=>pad A x i+c*pad A y i:=fun x y c=>by
    funext i
    unfold pad
    by_cases h:i < A
    · simp[h]
    · simp[h]
  exact {
    tab:=⟨hl,fun j hj=>by
      by_cases hn:row p ((A+j:Nat):Int)=[]
      · exact .inl ((hE j hj).2 hn)
      · exact .inr (hP j hj hn)⟩
    sub := ⟨h.sub.alike _ _ h.sub.zero fun i _=>Zaw (by unfold pad;simp),fun x y hx hy c=>by rw[hpad];exact h.sub.lin _ _ hx hy c,
      fun x y hx e=>h.sub.alike _ _ hx fun i hi=>by
        unfold pad
        by_cases k:i < A
        · simp[k]
        · simp only[k,if_false]
          exact e (i - A) (by omega)⟩
    own := fun j hj hn=>by
      have hn' : row p ((A+j:Nat):Int)≠[]:=fun e=>hn ((hE j hj).2 e)
      refine h.sub.alike _ _ (h.own (A+j) (by omega) hn') fun i hi=>Zaw ?_
      unfold pad
      by_cases k:i < A
      · simp only[k,if_true]
        exact(h.tab.prow (show A+j < A+B by omega) hn').zero i (by omega)
      · simp only[k,if_false]
        show rd (row p ((A+j:Nat):Int)) (i:Int)=rd (row q (j:Int)) ((i - A:Nat):Int)
        rw[hr j hj,ZgB,show A+(i - A)=i by omega]
    lead := fun x hx j hj hz=>by
      have:=h.lead _ hx (A+j) (by omega) fun i hi=>by
        unfold pad
        by_cases k:i < A
        · simp[k]
        · simp only[k,if_false]
          exact hz _ (by omega)
      rw[hdv j hj]
      unfold pad at this
      rw[if_neg (by omega),show A+j - A=j by omega]at this
      exact this }
theorem ZbK {a b:List Int} {i:Nat} (h:i < a.length):rd (a++b) (i:Int)=rd a (i:Int):=by
 simp[rd,List.getD_eq_getElem?_getD,List.getElem?_append,h]
theorem ZbL {a b:List Int} {i:Nat} (h:a.length≤i):rd (a++b) (i:Int)=rd b ((i - a.length:Nat):Int):=by
 simp only[rd,Int.toNat_natCast,List.getD_eq_getElem?_getD,List.getElem?_append,if_neg (show ¬ i < a.length by omega)]
theorem ZjJ {A B k:Nat} {f e:Nat→List Int} (hf:∀i,i < k→(f i).length=A) (hM:Lead m (A+B) p (Sp m (A+B) (Gn (fun i=>f i++e i) k))) (hL:Sub m A (fun x=>∃y,Sp m (A+B) (Gn (fun i=>f i++e i) k) y∧∀i,i < A→m∣y i - x i)) (x:Vc) :
  (∃y,Sp m (A+B) (Gn (fun i=>f i++e i) k) y∧∀i,i < A→m∣y i - x i)↔Sp m A (Gn f k) x:=by
 constructor
 ·
  rintro⟨y,hy,h⟩
  refine .alike ?_ h
  have hs:Sub m (A+B) (Sp m A (Gn f k)):=⟨.nil,fun x y hx hy c=>hx.plus (hy.mul c),fun x y hx h => .alike hx fun i hi=>h i (by omega)⟩
  refine hs.all (fun g hg => ?_) hy
  obtain⟨i,hi,rfl⟩:=hg
  refine .alike (.gen ⟨i,hi,rfl⟩) fun j hj=>Zaw ?_
  show rd (f i) (j:Int)=rd (f i++e i) (j:Int)
  rw[ZbK (by rw[hf i hi];exact hj)]
 ·
  intro hx
  refine hL.all (fun g hg => ?_) hx
  obtain⟨i,hi,rfl⟩:=hg
  refine⟨_,.gen ⟨i,hi,rfl⟩,fun j hj=>Zaw ?_⟩
  show rd (f i++e i) (j:Int)=rd (f i) (j:Int)
  rw[ZbK (by rw[hf i hi];exact hj)]
end
theorem Zbd {t:List Int} {j:Nat} {x:Int} (h:j < t.length):rd (t.set j x) (j:Int)=x:=by
 rw[Zbi (by rw[List.length_set];exact h)];simp
theorem Zbk {t:List Int} {i j:Nat} {x:Int} (h:i≠j):rd (t.set j x) (i:Int)=rd t (i:Int):=by
 simp only[rd,Int.toNat_natCast,List.getD_eq_getElem?_getD,List.getElem?_set,if_neg (show ¬ j=i from fun e=>h e.symm)]
end Go.Proofs.YtdamfbighdkcbaaGreat.V
namespace Go.Proofs.YtdamfbighdkcbaaGreat.V
open Go.RowKit Go.Proofs.YtdamfbighdkcbaaGreat.D Go.Proofs.YtdamfbighdkcbaaGreat.P
def unitC (c i:Nat):List Int:=(List.replicate c (0:Int)).set i 1
theorem Zci (c i:Nat):(unitC c i).length=c:=by simp[unitC]
theorem Ze2 {m:Int} (m2:2≤m) (c i:Nat):AllIn m (unitC c i):=Zby fun x hx=>by
 rcases List.mem_or_eq_of_mem_set hx with h|h
 ·
  rw[List.mem_replicate]at h;omega
 ·
  omega
theorem Zb1 (g:List (List Int)) (m:Int) (u v:List Int) (d:Nat):(bdL g m u v d).length=(cells g ((d+1:Nat):Int)).toNat:=by rw[bdL,List.length_map,List.length_range]
theorem Zkf {m:Int} (m2:2≤m) (g:List (List Int)) (u v:List Int) (d:Nat):AllIn m (bdL g m u v d):=Zby fun x hx=>by
 obtain⟨i,_,rfl⟩:=List.mem_map.1 hx
 exact⟨Int.emod_nonneg _ (by omega),Int.emod_lt_of_pos _ (by omega)⟩
noncomputable def bdU (g:List (List Int)) (m:Int) (u:List Int) (e i:Nat):List Int:=bdL g m u (unitC (cells g (e:Int)).toNat i) e
noncomputable def bdG (g:List (List Int)) (m:Int) (u:List Int):Nat→Vc→Prop
 | 0=>fun _=>False
 | e+1=>Gn (bdU g m u e) (cells g (e:Int)).toNat
noncomputable def bdA (g:List (List Int)) (m:Int) (u:List Int) (e i:Nat):List Int:=bdU g m u e i++unitC (cells g (e:Int)).toNat i
noncomputable def nB (g:List (List Int)) (e:Nat):Nat:=(cells g (e:Int)).toNat
theorem Zjp {g:List (List Int)} (hg:Grp g) {m:Int} (m2:2≤m) {e:Nat} (he:e≤3) (i:Nat):Co g m e (unitC (cells g (e:Int)).toNat i):=by
 have hb:=ZdW hg (d:=(e:Int)) (by omega)
 exact⟨⟨by omega,by omega⟩,by rw[Zci];omega,Ze2 m2 _ _⟩
theorem Zgq (m:Int) {c:Nat} (hc:c≤100000):ZaG.f m (c:Int)=some (m,List.replicate c []):=by
 rw[ZaG.f_eq,Int.toNat_natCast]
 ((with_reducible repeat (first|refine Zl (by first|assumption|omega|rfl|exact B_pos (by omega)) ?_|refine Zk (by first|assumption|omega|decide|exact B_not (by omega)) ?_|refine Ze (by first|assumption) ?_|dsimp only));first|done|(with_reducible rfl)|simp (disch:=omega) only[w64]|(show False;done))
theorem concat2 {a b:List Int} (ha:a.length≤1000000) (hb:b.length≤1000000):Zs.f [a,b]=some (a++b):=by
 have l2:([a,b]:List (List Int)).length=2:=rfl
 have r0:row [a,b] 0=a:=rfl
 have r1:row [a,b] 1=b:=rfl
 have w1:wrapI (0+1)=1:=w64 (by omega) (by omega)
 have w2:wrapI (1+1)=2:=w64 (by omega) (by omega)
 have w3:wrapI (0+(a.length:Int))=(a.length:Int):=by rw[w64 (by omega) (by omega)];omega
 have w4:wrapI ((a.length:Int)+(b.length:Int))=((a.length+b.length:Nat):Int):=by rw[w64 (by omega) (by omega)];omega
 have w5:wrapI (0 - 0)=0:=w64 (by omega) (by omega)
 have hG:Zaj.f ((a.length+b.length:Nat):Int)=some []:=by
  have w6:wrapI (((a.length+b.length:Nat):Int) - 0)=((a.length+b.length:Nat):Int):=by rw[w64 (by omega) (by omega)];omega
  rw[Zaj.f_eq,w5,w6,Int.toNat_natCast,List.length_replicate]
  by_cases h:a.length+b.length=0
  ·
   rw[h];((with_reducible repeat (first|refine Zl (by first|assumption|omega|rfl|exact B_pos (by omega)) ?_|refine Zk (by first|assumption|omega|decide|exact B_not (by omega)) ?_|refine Ze (by first|assumption) ?_|dsimp only));first|done|(with_reducible rfl)|simp (disch:=omega) only[w64]|(show False;done))
  ·
   (with_reducible repeat (first|refine Zl (by first|assumption|omega|rfl|exact B_pos (by omega)) ?_|refine Zk (by first|assumption|omega|decide|exact B_not (by omega)) ?_|refine Ze (by first|assumption) ?_|dsimp only))
   rfl
 rw[Zs.f_eq,l2,Zs.l0_eq,r0,w1,w3]
 (with_reducible repeat (first|refine Zl (by first|assumption|omega|rfl|exact B_pos (by omega)) ?_|refine Zk (by first|assumption|omega|decide|exact B_not (by omega)) ?_|refine Ze (by first|assumption) ?_|dsimp only))
 rw[Zs.l0_eq,r1,w2,w4]
 (with_reducible repeat (first|refine Zl (by first|assumption|omega|rfl|exact B_pos (by omega)) ?_|refine Zk (by first|assumption|omega|decide|exact B_not (by omega)) ?_|refine Ze (by first|assumption) ?_|dsimp only))
 rw[Zs.l0_eq]
 (with_reducible repeat (first|refine Zl (by first|assumption|omega|rfl|exact B_pos (by omega)) ?_|refine Zk (by first|assumption|omega|decide|exact B_not (by omega)) ?_|refine Ze (by first|assumption) ?_|dsimp only))
 rw[l2,Zs.l1_eq,r0,w1,show([]:List Int).length=0 from rfl]
 (with_reducible repeat (first|refine Zl (by first|assumption|omega|rfl|exact B_pos (by omega)) ?_|refine Zk (by first|assumption|omega|decide|exact B_not (by omega)) ?_|refine Ze (by first|assumption) ?_|dsimp only))
 rw[List.nil_append,Zs.l1_eq,r1,w2]
 (with_reducible repeat (first|refine Zl (by first|assumption|omega|rfl|exact B_pos (by omega)) ?_|refine Zk (by first|assumption|omega|decide|exact B_not (by omega)) ?_|refine Ze (by first|assumption) ?_|dsimp only))
 rw[Zs.l1_eq]
 ((with_reducible repeat (first|refine Zl (by first|assumption|omega|rfl|exact B_pos (by omega)) ?_|refine Zk (by first|assumption|omega|decide|exact B_not (by omega)) ?_|refine Ze (by first|assumption) ?_|dsimp only));first|done|(with_reducible rfl)|simp (disch:=omega) only[w64]|(show False;done))
theorem nA_bd {g:List (List Int)} (hg:Grp g) {e:Nat} (he:e≤4):nB g e≤16807∧((nB g e:Nat):Int)=cells g (e:Int):=by
 have hb:=ZdW hg (d:=(e:Int)) (by omega)
 unfold nB
 omega
theorem Zjv {g:List (List Int)} (hg:Grp g) {m:Int} {u:List Int} (hm:Mdl g m u) {n:Nat} (hn:n≤3) :
  ∃p,Z8.f g m u (n:Int)=some (m,p)∧Pst m (nB g n) p [] (Sp m (nB g n) (bdG g m u n)):=by
 have m2:=hm.m2;have m12:=hm.m12
 obtain⟨b1,b2⟩:=nA_bd hg (e:=n) (by omega)
 have hc:=ZfJ hg (d:=(n:Int)) (by omega) (by omega)
 have hN:=Zgq m (c:=nB g n) (by omega)
 rw[b2]at hN
 rw[Z8.f_eq,hc,Option.bind_some,hN,Option.bind_some]
 cases n with
 | zero =>
  refine⟨_,if_pos rfl,Pst.none fun g h=>h⟩
 | succ e =>
  obtain⟨c1,c2⟩:=nA_bd hg (e:=e) (by omega)
  have w:wrapI (((e+1:Nat):Int) - 1)=(e:Int):=by rw[w64 (by omega) (by omega)];omega
  have hc2:=ZfJ hg (d:=(e:Int)) (by omega) (by omega)
  have hz:=zero_ hg (n:=e) (by omega)
  rw[←show nB g e=(cells g (e:Int)).toNat from rfl]at hz
  rw[w,hc2,Option.bind_some,if_neg (by omega),←c2]
  have key:∀k,k≤nB g e→∃p,Z8.l0 ((e+1:Nat):Int) ((nB g e:Nat):Int) 0 g m u m (List.replicate (nB g (e+1)) [])=Z8.l0 ((e+1:Nat):Int) ((nB g e:Nat):Int) (k:Int) g m u m p∧Pst m (nB g (e+1)) p [] (Sp m (nB g (e+1)) (Gn (bdU g m u e) k)):=by
   intro k
   induction k with
   | zero=>exact fun _=>⟨_,rfl,Pst.none fun g ⟨i,hi,_⟩=>by omega⟩
   | succ k ih =>
    intro hk
    obtain⟨p,h1,h2⟩:=ih (by omega)
    have hl:(List.replicate (nB g e) (0:Int)).length=nB g e:=List.length_replicate
    have hB:=ZgY hg hm (Zjp hg m2 (e:=e) (by omega) k)
    have hB:ZaA.f g m u (e:Int) ((List.replicate (nB g e) (0:Int)).set k 1)=some (((e+1:Nat):Int),bdU g m u e k):=hB
    obtain⟨p', h3,h4⟩:=put_ m2 m12 (show nB g (e+1)≤100000 by omega) (h2.add (r:=bdU g m u e k) ⟨Zb1 ..,Zkf m2 _ _ _ _⟩ ZhK)
    refine⟨p', ?_,h4⟩
    rw[h1,Z8.l0_eq,w,wn (j:=k) (by omega),Int.toNat_natCast]
    ((with_reducible repeat (first|refine Zl (by first|assumption|omega|rfl|exact B_pos (by omega)) ?_|refine Zk (by first|assumption|omega|decide|exact B_not (by omega)) ?_|refine Ze (by first|assumption) ?_|dsimp only));first|done|(with_reducible rfl)|simp (disch:=omega) only[w64]|(show False;done))
  obtain⟨p,h1,h2⟩:=key _ (Nat.le_refl _)
  refine⟨p,?_,h2⟩
  have e1:(cells g ((e+1:Nat):Int)).toNat=nB g (e+1):=rfl
  rw[h1,Z8.l0_eq]
  ((with_reducible repeat (first|refine Zl (by first|assumption|omega|rfl|exact B_pos (by omega)) ?_|refine Zk (by first|assumption|omega|decide|exact B_not (by omega)) ?_|refine Ze (by first|assumption) ?_|dsimp only));first|done|(with_reducible rfl)|simp (disch:=omega) only[w64]|(show False;done))
theorem ZlN {g:List (List Int)} (hg:Grp g) {m:Int} {u:List Int} (hm:Mdl g m u) {n:Nat} (hn:n≤3) :
  ∃p,Zar.f g m u (n:Int)=some (m,p,((nB g (n+1):Nat):Int))∧Pst m (nB g (n+1)+nB g n) p [] (Sp m (nB g (n+1)+nB g n) (Gn (bdA g m u n) (nB g n))):=by
 have m2:=hm.m2;have m12:=hm.m12
 obtain⟨b1,b2⟩:=nA_bd hg (e:=n) (by omega)
 obtain⟨c1,c2⟩:=nA_bd hg (e:=n+1) (by omega)
 have hc:=ZfJ hg (d:=(n:Int)) (by omega) (by omega)
 have hc2:=ZfJ hg (d:=((n+1:Nat):Int)) (by omega) (by omega)
 have hz:=zero_ hg (n:=n) (by omega)
 rw[←show nB g n=(cells g (n:Int)).toNat from rfl]at hz
 have hN:=Zgq m (c:=nB g (n+1)+nB g n) (by omega)
 have w:wrapI ((nB g (n+1):Int)+(nB g n:Int))=((nB g (n+1)+nB g n:Nat):Int):=by rw[w64 (by omega) (by omega)];omega
 rw[Zar.f_eq,wn (j:=n) (by omega),hc2,Option.bind_some,hc,Option.bind_some,←b2,←c2,w,hN,Option.bind_some]
 have key:∀k,k≤nB g n→∃p,Zar.l0 (n:Int) ((nB g (n+1):Nat):Int) ((nB g n:Nat):Int) 0 g m u m (List.replicate (nB g (n+1)+nB g n) [])=Zar.l0 (n:Int) ((nB g (n+1):Nat):Int) ((nB g n:Nat):Int) (k:Int) g m u m p∧Pst m (nB g (n+1)+nB g n) p [] (Sp m (nB g (n+1)+nB g n) (Gn (bdA g m u n) k)):=by
  intro k
  induction k with
  | zero=>exact fun _=>⟨_,rfl,Pst.none fun g ⟨i,hi,_⟩=>by omega⟩
  | succ k ih =>
   intro hk
   obtain⟨p,h1,h2⟩:=ih (by omega)
   have hl:(List.replicate (nB g n) (0:Int)).length=nB g n:=List.length_replicate
   have hB:=ZgY hg hm (Zjp hg m2 (e:=n) (by omega) k)
   have hB:ZaA.f g m u (n:Int) ((List.replicate (nB g n) (0:Int)).set k 1)=some (((n+1:Nat):Int),bdU g m u n k):=hB
   have bl:(bdU g m u n k).length=nB g (n+1):=Zb1 ..
   have ul:(unitC (nB g n) k).length=nB g n:=Zci ..
   have hC:Zs.f [bdU g m u n k,(List.replicate (nB g n) (0:Int)).set k 1]=some (bdA g m u n k):=concat2 (a:=bdU g m u n k) (b:=unitC (nB g n) k) (by omega) (by omega)
   have al:(bdA g m u n k).length=nB g (n+1)+nB g n:=by
    show(bdU g m u n k++unitC (nB g n) k).length=_
    rw[List.length_append,bl,ul]
   obtain⟨p', h3,h4⟩:=put_ m2 m12 (show nB g (n+1)+nB g n≤100000 by omega) (h2.add (r:=bdA g m u n k) ⟨al,(Zkf m2 _ _ _ _).append (Ze2 m2 _ _)⟩ ZhK)
   refine⟨p', ?_,h4⟩
   rw[h1,Zar.l0_eq,wn (j:=k) (by omega),Int.toNat_natCast]
   ((with_reducible repeat (first|refine Zl (by first|assumption|omega|rfl|exact B_pos (by omega)) ?_|refine Zk (by first|assumption|omega|decide|exact B_not (by omega)) ?_|refine Ze (by first|assumption) ?_|dsimp only));first|done|(with_reducible rfl)|simp (disch:=omega) only[w64]|(show False;done))
 obtain⟨p,h1,h2⟩:=key _ (Nat.le_refl _)
 refine⟨p,?_,h2⟩
 rw[h1,Zar.l0_eq]
 ((with_reducible repeat (first|refine Zl (by first|assumption|omega|rfl|exact B_pos (by omega)) ?_|refine Zk (by first|assumption|omega|decide|exact B_not (by omega)) ?_|refine Ze (by first|assumption) ?_|dsimp only));first|done|(with_reducible rfl)|simp (disch:=omega) only[w64]|(show False;done))
def Zcd (p:List (List Int)) (A B:Nat):List (List Int):=(List.range B).map fun j:Nat=>(row p ((A+j:Nat):Int)).drop A
def ZeS (p:List (List Int)) (A:Nat):List (List Int):=(List.range A).map fun j:Nat=>(row p (j:Int)).take A
theorem ZeR {p:List (List Int)} {A B j:Nat} (h:j < B):row (Zcd p A B) (j:Int)=(row p ((A+j:Nat):Int)).drop A:=by
 rw[Zbf (by simpa [Zcd] using h)]
 simp[Zcd]
theorem Zj1 {p:List (List Int)} {A j:Nat} (h:j < A):row (ZeS p A) (j:Int)=(row p (j:Int)).take A:=by
 rw[Zbf (by simpa [ZeS] using h)]
 simp[ZeS]
theorem ZfE (F:Nat→List Int) (B k:Nat) (h:k < B):((List.range k).map F++List.replicate (B - k) []).set k (F k)=(List.range (k+1)).map F++List.replicate (B - (k+1)) []:=by
 rw[List.set_append,if_neg (by simp),List.length_map,List.length_range,Nat.sub_self,show B - k=(B - (k+1))+1 by omega,List.replicate_succ,List.set_cons_zero,List.range_succ,List.map_append]
 simp
theorem ZfD (F:Nat→List Int) (B k:Nat) (h:k < B) (e:F k=[]):(List.range k).map F++List.replicate (B - k) []=(List.range (k+1)).map F++List.replicate (B - (k+1)) []:=by
 rw[show B - k=(B - (k+1))+1 by omega,List.replicate_succ,List.range_succ,List.map_append,List.map_singleton,e]
 simp
theorem ZgH (F:Nat→List Int) (B k:Nat) (h:k≤B):((List.range k).map F++List.replicate (B - k) []).length=B:=by simp;omega
theorem part_ {m:Int} {p:List (List Int)} {A B:Nat} (hA:A≤100000) (hB:B≤100000) (ht:PTab m (A+B) p):Z9.f m p (A:Int)=some (m,Zcd p A B,m,p):=by
 have hl:=ht.len
 have w:wrapI ((p.length:Int) - (A:Int))=(B:Int):=by rw[w64 (by omega) (by omega)];omega
 rw[Z9.f_eq,w,Zgq m hB,Option.bind_some]
 obtain⟨F,hF⟩:∃F:Nat→List Int,F=fun j:Nat=>(row p ((A+j:Nat):Int)).drop A:=⟨_,rfl⟩
 have loop:=up B (fun k=>Z9.l0 (A:Int) ((A+k:Nat):Int) m p m ((List.range k).map F++List.replicate (B - k) [])) (fun k hk=>by
  have hw:wrapI (((A+k:Nat):Int) - (A:Int))=(k:Int):=by rw[w64 (by omega) (by omega)];omega
  have rl:=ZgH F B k (by omega)
  have hFk:F k=(row p ((A+k:Nat):Int)).drop A:=by rw[hF]
  rw[show A+(k+1)=A+k+1 from rfl,Z9.l0_eq,wn (j:=A+k) (by omega),hw]
  simp only[Int.toNat_natCast]
  rw[←hFk]
  by_cases hr:row p ((A+k:Nat):Int)=[]
  ·
   have e0:(row p ((A+k:Nat):Int)).length=0:=by rw[hr];rfl
   rw[←ZfD F B k hk (by rw[hFk,hr];simp)]
   ((with_reducible repeat (first|refine Zl (by first|assumption|omega|rfl|exact B_pos (by omega)) ?_|refine Zk (by first|assumption|omega|decide|exact B_not (by omega)) ?_|refine Ze (by first|assumption) ?_|dsimp only));first|done|(with_reducible rfl)|simp (disch:=omega) only[w64]|(show False;done))
  ·
   have hP:=ht.prow (show A+k < A+B by omega) hr
   have e1:=hP.len
   have e2:(F k).length=B:=by rw[hFk,List.length_drop,e1];omega
   rw[←ZfE F B k hk]
   ((with_reducible repeat (first|refine Zl (by first|assumption|omega|rfl|exact B_pos (by omega)) ?_|refine Zk (by first|assumption|omega|decide|exact B_not (by omega)) ?_|refine Ze (by first|assumption) ?_|dsimp only));first|done|(with_reducible rfl)|simp (disch:=omega) only[w64]|(show False;done)))
 rw[List.range_zero,List.map_nil,List.nil_append,Nat.sub_zero,Nat.add_zero,Nat.sub_self,List.replicate_zero,List.append_nil]at loop
 rw[show Zcd p A B=(List.range B).map F by rw[hF];rfl]
 refine loop.trans ?_
 rw[Z9.l0_eq]
 ((with_reducible repeat (first|refine Zl (by first|assumption|omega|rfl|exact B_pos (by omega)) ?_|refine Zk (by first|assumption|omega|decide|exact B_not (by omega)) ?_|refine Ze (by first|assumption) ?_|dsimp only));first|done|(with_reducible rfl)|simp (disch:=omega) only[w64]|(show False;done))
noncomputable def coM (g:List (List Int)) (m:Int) (u:List Int) (n:Nat):Vc→Prop:=fun x=>Sp m (nB g (n+1)+nB g n) (Gn (bdA g m u n) (nB g n)) (pad (nB g (n+1)) x)
theorem Zcm {m:Int} {p:List (List Int)} {A B:Nat} {M:Vc→Prop} (m0:0 < m) (h:Lead m (A+B) p M):Lead m B (Zcd p A B) (fun x=>M (pad A x)) :=
 h.last m0 (by simp[Zcd]) fun j hj=>ZeR hj
theorem Zg6 {g:List (List Int)} (hg:Grp g) {m:Int} {u:List Int} (hm:Mdl g m u) {n:Nat} (hn:n≤3) :
  ∃q,ZaR.f g m u (n:Int)=some (m,q)∧Lead m (nB g n) q (coM g m u n):=by
 have m2:=hm.m2
 obtain⟨b1,b2⟩:=nA_bd hg (e:=n) (by omega)
 obtain⟨c1,c2⟩:=nA_bd hg (e:=n+1) (by omega)
 obtain⟨p,h1,h2⟩:=ZlN hg hm hn
 have h3:=h2.lead (by omega)
 have h4:=part_ (m:=m) (A:=nB g (n+1)) (B:=nB g n) (by omega) (by omega) h3.tab
 refine⟨_,?_,Zcm (by omega) h3⟩
 rw[ZaR.f_eq]
 ((with_reducible repeat (first|refine Zl (by first|assumption|omega|rfl|exact B_pos (by omega)) ?_|refine Zk (by first|assumption|omega|decide|exact B_not (by omega)) ?_|refine Ze (by first|assumption) ?_|dsimp only));first|done|(with_reducible rfl)|simp (disch:=omega) only[w64]|(show False;done))
theorem ZnJ {g:List (List Int)} (hg:Grp g) {m:Int} {u:List Int} (hm:Mdl g m u) {n:Nat} (hn:n≤3):ZS.f g m u (n:Int)=some ((List.range (nB g n)).map (bdA g m u n)):=by
 have m2:=hm.m2
 obtain⟨b1,b2⟩:=nA_bd hg (e:=n) (by omega)
 obtain⟨c1,c2⟩:=nA_bd hg (e:=n+1) (by omega)
 have hc:=Ze7 hg (d:=(n:Int)) (by omega) (by omega)
 have hc2:=Ze7 hg (d:=((n+1:Nat):Int)) (by omega) (by omega)
 rw[←b2]at hc
 rw[←c2]at hc2
 have hz:Za0.f g (n:Int)=some ((n:Int),List.replicate (nB g n) 0):=by
  rw[Za0.f_eq,hc,Option.bind_some,Int.toNat_natCast]
  ((with_reducible repeat (first|refine Zl (by first|assumption|omega|rfl|exact B_pos (by omega)) ?_|refine Zk (by first|assumption|omega|decide|exact B_not (by omega)) ?_|refine Ze (by first|assumption) ?_|dsimp only));first|done|(with_reducible rfl)|simp (disch:=omega) only[w64]|(show False;done))
 have l3:∀x:List Int,([x]:List (List Int)).length=1:=fun _=>rfl
 have l2:∀x:Int,([x]:List Int).length=1:=fun _=>rfl
 rw[ZS.f_eq,hc,Option.bind_some]
 have loop:=up (nB g n) (fun k=>ZS.l0 (n:Int) ((nB g n:Nat):Int) (k:Int) g m u ((List.range k).map (bdA g m u n))) (fun k hk=>by
  have hl:(List.replicate (nB g n) (0:Int)).length=nB g n:=List.length_replicate
  have bl:(bdU g m u n k).length=nB g (n+1):=Zb1 ..
  have ul:((List.replicate (nB g n) (0:Int)).set k 1).length=nB g n:=by simp
  have hCo:=Zjp hg m2 (e:=n) (by omega) k
  have inner:=up (nB g (n+1)) (fun j=>ZS.l1 (n:Int) ((nB g n:Nat):Int) (k:Int) (j:Int) g m u ((List.range k).map (bdA g m u n)) (n:Int) ((bdU g m u n k).take j) ((List.replicate (nB g n) (0:Int)).set k 1)) (fun j hj=>by
   have hL:=(ZgZ hg (n:=n+1) (i:=j) (by omega) (by omega)).2
   have hll:=ZcK ((g.length:Int) - 1) (n+1) j
   obtain⟨hx,_⟩:=Zgo hg (n:=n+1) (i:=j) (by omega)
   have hS:=Side_ hg hm hCo hx hll
   have hS:Zat.f g m u (n:Int) ((List.replicate (nB g n) (0:Int)).set k 1) (lst ((g.length:Int) - 1) (n+1) j)=some (rd (bdU g m u n k) (j:Int)):=by
    rw[Zbi (by omega)]
    simp only[bdU,bdL,List.getElem_map,List.getElem_range]
    exact hS
   have tl:((bdU g m u n k).take j).length=j:=by rw[List.length_take];omega
   rw[ZeC (by omega),ZS.l1_eq,wn (j:=n) (by omega),wn (j:=j) (by omega)]
   (with_reducible repeat (first|refine Zl (by first|assumption|omega|rfl|exact B_pos (by omega)) ?_|refine Zk (by first|assumption|omega|decide|exact B_not (by omega)) ?_|refine Ze (by first|assumption) ?_|dsimp only))
   rw[l2]
   ((with_reducible repeat (first|refine Zl (by first|assumption|omega|rfl|exact B_pos (by omega)) ?_|refine Zk (by first|assumption|omega|decide|exact B_not (by omega)) ?_|refine Ze (by first|assumption) ?_|dsimp only));first|done|(with_reducible rfl)|simp (disch:=omega) only[w64]|(show False;done)))
  simp only[Int.natCast_zero,List.take_zero]at inner
  rw[List.take_of_length_le (by omega)]at inner
  have ml:((List.range k).map (bdA g m u n)).length=k:=by simp
  rw[ZS.l0_eq,Int.toNat_natCast]
  (with_reducible repeat (first|refine Zl (by first|assumption|omega|rfl|exact B_pos (by omega)) ?_|refine Zk (by first|assumption|omega|decide|exact B_not (by omega)) ?_|refine Ze (by first|assumption) ?_|dsimp only))
  rw[inner,ZS.l1_eq,wn (j:=n) (by omega),wn (j:=k) (by omega),l3]
  (with_reducible repeat (first|refine Zl (by first|assumption|omega|rfl|exact B_pos (by omega)) ?_|refine Zk (by first|assumption|omega|decide|exact B_not (by omega)) ?_|refine Ze (by first|assumption) ?_|dsimp only))
  rw[List.range_succ,List.map_append,List.map_singleton]
  rfl)
 simp only[Int.natCast_zero,List.range_zero,List.map_nil]at loop
 rw[loop,ZS.l0_eq]
 ((with_reducible repeat (first|refine Zl (by first|assumption|omega|rfl|exact B_pos (by omega)) ?_|refine Zk (by first|assumption|omega|decide|exact B_not (by omega)) ?_|refine Ze (by first|assumption) ?_|dsimp only));first|done|(with_reducible rfl)|simp (disch:=omega) only[w64]|(show False;done))
theorem ZmU {g:List (List Int)} {m:Int} {u:List Int} {n k:Nat}:(bdA g m u n k).length=nB g (n+1)+nB g n:=by
 show(bdU g m u n k++unitC (nB g n) k).length=_
 rw[List.length_append,Zci]
 show(bdL _ _ _ _ _).length+_=_
 rw[Zb1]
 rfl
theorem Zmy {g:List (List Int)} (hg:Grp g) {m:Int} {u:List Int} (hm:Mdl g m u) {n:Nat} (hn:n≤3) :
  ∃p,Z6.f g m u (n:Int)=some (ZeS p (nB g (n+1)),Zcd p (nB g (n+1)) (nB g n),p)∧Lead m (nB g (n+1)+nB g n) p (Sp m (nB g (n+1)+nB g n) (Gn (bdA g m u n) (nB g n))):=by
 have m2:=hm.m2;have m12:=hm.m12
 obtain⟨b1,b2⟩:=nA_bd hg (e:=n) (by omega)
 obtain⟨c1,c2⟩:=nA_bd hg (e:=n+1) (by omega)
 have hc:=Ze7 hg (d:=(n:Int)) (by omega) (by omega)
 have hc2:=Ze7 hg (d:=((n+1:Nat):Int)) (by omega) (by omega)
 rw[←b2]at hc
 rw[←c2]at hc2
 obtain⟨A,hA⟩:∃A,A=nB g (n+1):=⟨_,rfl⟩
 obtain⟨B,hB⟩:∃B,B=nB g n:=⟨_,rfl⟩
 have hX:((List.range (nB g n)).map (bdA g m u n)).length=nB g n:=by simp
 have hXr:∀i:Nat,i < nB g n→row ((List.range (nB g n)).map (bdA g m u n)) (i:Int)=bdA g m u n i:=fun i hi=>by
  rw[Zbf (by omega)];simp
 obtain⟨p,h1,h2⟩:=Ziy m2 m12 (W:=nB g (n+1)+nB g n) (by omega) (X:=(List.range (nB g n)).map (bdA g m u n)) (by omega) (fun i hi=>by
  rw[hXr i (by omega)]
  exact⟨ZmU,(Zkf m2 _ _ _ _).append (Ze2 m2 _ _)⟩)
 have hM:Sp m (nB g (n+1)+nB g n) (Gn (fun i=>row ((List.range (nB g n)).map (bdA g m u n)) (i:Int)) ((List.range (nB g n)).map (bdA g m u n)).length)=Sp m (nB g (n+1)+nB g n) (Gn (bdA g m u n) (nB g n)):=by
  congr 1
  funext x
  apply propext
  rw[hX]
  constructor
  ·
   rintro⟨i,hi,rfl⟩;exact⟨i,hi,congrArg V (hXr i hi)⟩
  ·
   rintro⟨i,hi,rfl⟩;exact⟨i,hi,(congrArg V (hXr i hi)).symm⟩
 rw[hM]at h2
 have h3:=h2.lead (by omega)
 refine⟨p,?_,h3⟩
 have ht:=h3.tab
 have hl:=ht.len
 have w:wrapI ((nB g (n+1):Int)+(nB g n:Int))=((nB g (n+1)+nB g n:Nat):Int):=by rw[w64 (by omega) (by omega)];omega
 have hSd:=ZnJ hg hm hn
 rw[Z6.f_eq,wn (j:=n) (by omega),hc2,Option.bind_some,hc,Option.bind_some,hSd,Option.bind_some,w,h1,Option.bind_some,Int.toNat_natCast,Int.toNat_natCast]
 (with_reducible repeat (first|refine Zl (by first|assumption|omega|rfl|exact B_pos (by omega)) ?_|refine Zk (by first|assumption|omega|decide|exact B_not (by omega)) ?_|refine Ze (by first|assumption) ?_|dsimp only))
 rw[←hA,←hB]at hl ht w ⊢
 obtain⟨F,hF⟩:∃F:Nat→List Int,F=fun j:Nat=>(row p (j:Int)).take A:=⟨_,rfl⟩
 obtain⟨H,hH⟩:∃H:Nat→List Int,H=fun j:Nat=>(row p ((A+j:Nat):Int)).drop A:=⟨_,rfl⟩
 have loop1:=up A (fun k=>Z6.l0 (A:Int) (B:Int) (k:Int) p ((List.range k).map F++List.replicate (A - k) []) (List.replicate B [])) (fun k hk=>by
  have rl:=ZgH F A k (by omega)
  have hFk:F k=(row p (k:Int)).take A:=by rw[hF]
  rw[Z6.l0_eq,wn (j:=k) (by omega),w]
  simp only[Int.toNat_natCast]
  rw[←hFk]
  by_cases hr:row p (k:Int)=[]
  ·
   have e0:((row p (k:Int)).length:Int)=0:=by rw[hr];rfl
   rw[←ZfD F A k hk (by rw[hFk,hr];simp)]
   ((with_reducible repeat (first|refine Zl (by first|assumption|omega|rfl|exact B_pos (by omega)) ?_|refine Zk (by first|assumption|omega|decide|exact B_not (by omega)) ?_|refine Ze (by first|assumption) ?_|dsimp only));first|done|(with_reducible rfl)|simp (disch:=omega) only[w64]|(show False;done))
  ·
   have hP:=ht.prow (show k < A+B by omega) hr
   have e1:=hP.len
   rw[←ZfE F A k hk]
   ((with_reducible repeat (first|refine Zl (by first|assumption|omega|rfl|exact B_pos (by omega)) ?_|refine Zk (by first|assumption|omega|decide|exact B_not (by omega)) ?_|refine Ze (by first|assumption) ?_|dsimp only));first|done|(with_reducible rfl)|simp (disch:=omega) only[w64]|(show False;done)))
 have loop2:=up B (fun k=>Z6.l0 (A:Int) (B:Int) ((A+k:Nat):Int) p ((List.range A).map F) ((List.range k).map H++List.replicate (B - k) [])) (fun k hk=>by
  have rl:=ZgH H B k (by omega)
  have hw:wrapI (((A+k:Nat):Int) - (A:Int))=(k:Int):=by rw[w64 (by omega) (by omega)];omega
  have hHk:H k=(row p ((A+k:Nat):Int)).drop A:=by rw[hH]
  rw[show A+(k+1)=A+k+1 from rfl,Z6.l0_eq,wn (j:=A+k) (by omega),w,hw]
  simp only[Int.toNat_natCast]
  rw[←hHk]
  by_cases hr:row p ((A+k:Nat):Int)=[]
  ·
   have e0:((row p ((A+k:Nat):Int)).length:Int)=0:=by rw[hr];rfl
   rw[←ZfD H B k hk (by rw[hHk,hr];simp)]
   ((with_reducible repeat (first|refine Zl (by first|assumption|omega|rfl|exact B_pos (by omega)) ?_|refine Zk (by first|assumption|omega|decide|exact B_not (by omega)) ?_|refine Ze (by first|assumption) ?_|dsimp only));first|done|(with_reducible rfl)|simp (disch:=omega) only[w64]|(show False;done))
  ·
   have hP:=ht.prow (show A+k < A+B by omega) hr
   have e1:=hP.len
   rw[←ZfE H B k hk]
   ((with_reducible repeat (first|refine Zl (by first|assumption|omega|rfl|exact B_pos (by omega)) ?_|refine Zk (by first|assumption|omega|decide|exact B_not (by omega)) ?_|refine Ze (by first|assumption) ?_|dsimp only));first|done|(with_reducible rfl)|simp (disch:=omega) only[w64]|(show False;done)))
 rw[List.range_zero,List.map_nil,List.nil_append,Nat.sub_zero,Nat.sub_self,List.replicate_zero,List.append_nil]at loop1
 rw[List.range_zero,List.map_nil,List.nil_append,Nat.sub_zero,Nat.add_zero,Nat.sub_self,List.replicate_zero,List.append_nil]at loop2
 rw[show Zcd p A B=(List.range B).map H by rw[hH];rfl,show ZeS p A=(List.range A).map F by rw[hF];rfl]
 refine(loop1.trans loop2).trans ?_
 rw[Z6.l0_eq,w]
 ((with_reducible repeat (first|refine Zl (by first|assumption|omega|rfl|exact B_pos (by omega)) ?_|refine Zk (by first|assumption|omega|decide|exact B_not (by omega)) ?_|refine Ze (by first|assumption) ?_|dsimp only));first|done|(with_reducible rfl)|simp (disch:=omega) only[w64]|(show False;done))
theorem Both_ {g:List (List Int)} (hg:Grp g) {m:Int} {u:List Int} (hm:Mdl g m u) {n:Nat} (hn:n≤3) :
  ∃p q,Za1.f g m u (n:Int)=some (p,q)∧Lead m (nB g n) p (Sp m (nB g n) (bdG g m u n))∧Lead m (nB g n) q (coM g m u n):=by
 have m2:=hm.m2
 obtain⟨b1,b2⟩:=nA_bd hg (e:=n) (by omega)
 have hc:=Ze7 hg (d:=(n:Int)) (by omega) (by omega)
 rw[←b2]at hc
 obtain⟨p,h1,h2⟩:=Zmy hg hm hn
 rw[Za1.f_eq,h1,Option.bind_some,hc,Option.bind_some,Int.toNat_natCast]
 cases n with
 | zero =>
  refine⟨_,_,?_,(Pst.none (G:=bdG g m u 0) fun g h=>h).lead (by omega),Zcm (by omega) h2⟩
  ((with_reducible repeat (first|refine Zl (by first|assumption|omega|rfl|exact B_pos (by omega)) ?_|refine Zk (by first|assumption|omega|decide|exact B_not (by omega)) ?_|refine Ze (by first|assumption) ?_|dsimp only));first|done|(with_reducible rfl)|simp (disch:=omega) only[w64]|(show False;done))
 | succ e =>
  obtain⟨p', h3,h4⟩:=Zmy hg hm (n:=e) (by omega)
  have w:wrapI (((e+1:Nat):Int) - 1)=(e:Int):=by rw[w64 (by omega) (by omega)];omega
  have h5:=h4.first (q:=ZeS p' (nB g (e+1))) (by omega) (by simp[ZeS]) fun j hj=>Zj1 hj
  refine⟨ZeS p' (nB g (e+1)),_,?_,?_,Zcm (by omega) h2⟩
  ·
   rw[w]
   ((with_reducible repeat (first|refine Zl (by first|assumption|omega|rfl|exact B_pos (by omega)) ?_|refine Zk (by first|assumption|omega|decide|exact B_not (by omega)) ?_|refine Ze (by first|assumption) ?_|dsimp only));first|done|(with_reducible rfl)|simp (disch:=omega) only[w64]|(show False;done))
  ·
   have:(fun x=>∃y,Sp m (nB g (e+1)+nB g e) (Gn (bdA g m u e) (nB g e)) y∧∀i,i < nB g (e+1)→m∣y i - x i)=Sp m (nB g (e+1)) (bdG g m u (e+1)):=by
    funext x
    exact propext (ZjJ (fun i hi=>Zb1 ..) h4 h5.sub x)
   rw[this]at h5
   exact h5
noncomputable def allM (g:List (List Int)) (m:Int) (u:List Int) (e:Nat):Vc→Prop:=Sp m (nB g (e+1)+nB g e) (Gn (bdA g m u e) (nB g e))
end Go.Proofs.YtdamfbighdkcbaaGreat.V
namespace Go.Proofs.YtdamfbighdkcbaaGreat.V
open Go.RowKit Go.Proofs.YtdamfbighdkcbaaGreat.D Go.Proofs.YtdamfbighdkcbaaGreat.P
def lc (p:List (List Int)) (t:List Int):Nat→Vc
 | 0=>fun _=>0
 | k+1=>fun i=>lc p t k i+rd t (k:Int)*rd (row p (k:Int)) (i:Int)
theorem ZdO (p:List (List Int)) (t:List Int) (k i:Nat):lc p t (k+1) i=lc p t k i+rd t (k:Int)*rd (row p (k:Int)) (i:Int):=rfl
structure Least0 (m:Int) (W k:Nat) (p:List (List Int)) (M:Vc→Prop) (x y t:List Int):Prop where
 len:y.length=W
 ent:AllIn m y
 dif:M fun i=>rd x (i:Int) - rd y (i:Int)
 lt:∀j:Nat,j < k→rd y (j:Int) < dv m p j
 tlen:t.length=W
 tbd:∀j:Nat,j < W→0≤rd t (j:Int)∧rd t (j:Int)≤12
 tnil:∀j:Nat,row p (j:Int)=[]→rd t (j:Int)=0
 tak:∀i:Nat,i < W→m∣rd x (i:Int) - rd y (i:Int) - lc p t k i
 tlt:∀j:Nat,j < W→rd t (j:Int)*rd (row p (j:Int)) (j:Int) < m
theorem Zmc {p:List (List Int)} {t t' : List Int}:∀k,(∀j:Nat,j < k→rd t (j:Int)=rd t' (j:Int))→lc p t k=lc p t' k:=by
 intro k
 induction k with
 | zero=>intro _;rfl
 | succ k ih =>
  intro h
  funext i
  rw[lc,lc,ih fun j hj=>h j (by omega),h k (by omega)]
theorem Least0.begin {m:Int} {W:Nat} {p:List (List Int)} {M:Vc→Prop} (hM:Lead m W p M) {x:List Int} (hx:x.length=W) (ha:AllIn m x):Least0 m W 0 p M x x (List.replicate W 0) where
 len:=hx
 ent:=ha
 dif:=hM.sub.alike _ _ hM.sub.zero fun i _=>Zaw (by simp)
 lt:=fun j hj=>by omega
 tlen:=List.length_replicate
 tbd:=fun j _=>by rw[ZbD];omega
 tnil:=fun j _=>ZbD _ _
 tak:=fun i _=>Zaw (by simp[lc])
 tlt:=fun j hj=>by
  have:=ha (j:Int) (by omega) (by omega)
  rw[ZbD,Int.zero_mul];omega
theorem Least0.skip {m:Int} {W k:Nat} {p:List (List Int)} {M:Vc→Prop} {x y t:List Int} (h:Least0 m W k p M x y t) (hk:k < W) (hr:row p (k:Int)=[]):Least0 m W (k+1) p M x y t :=
  { h with
    lt := fun j hj=>by
      by_cases e:j=k
      · subst e
        rw[show dv m p j=m from if_pos hr]
        exact(h.ent j (by omega) (by rw[h.len];omega)).2
      · exact h.lt j (by omega)
    tak:=fun i hi=>by
      rw[ZdO,h.tnil k hr,Int.zero_mul,Int.add_zero]
      exact h.tak i hi }
theorem Least0.take {m:Int} {W k:Nat} {p:List (List Int)} {M:Vc→Prop} {x y t:List Int} (m2:2≤m) (m12:m≤12) (hM:Lead m W p M) (h:Least0 m W k p M x y t) (hk:k < W) (hr:row p (k:Int)≠[]) :
  Least0 m W (k+1) p M x (mix m 1 y (-(rd y (k:Int) / rd (row p (k:Int)) (k:Int))) (row p (k:Int))) (t.set k (rd y (k:Int) / rd (row p (k:Int)) (k:Int))):=by
 have hP:=hM.tab.prow hk hr
 have p0:=hP.pos
 have p1:=hP.lt
 have yl:=h.len
 have tl:=h.tlen
 obtain⟨y0,y1⟩:=h.ent k (by omega) (by omega)
 obtain⟨q,hq⟩:∃q,q=rd y (k:Int) / rd (row p (k:Int)) (k:Int):=⟨_,rfl⟩
 rw[←hq]
 have hmod:=Int.mul_ediv_add_emod (rd y (k:Int)) (rd (row p (k:Int)) (k:Int))
 rw[←hq]at hmod
 have r0:=Int.emod_nonneg (rd y (k:Int)) (show rd (row p (k:Int)) (k:Int)≠0 by omega)
 have r1:=Int.emod_lt_of_pos (rd y (k:Int)) p0
 have q0:0≤q:=by rw[hq];exact Int.ediv_nonneg y0 (by omega)
 have q1:q≤rd y (k:Int):=by rw[hq];exact Int.ediv_le_self _ y0
 have hy:∀i:Nat,i < W→m∣1*rd y (i:Int)+(-q)*rd (row p (k:Int)) (i:Int) - rd (mix m 1 y (-q) (row p (k:Int))) (i:Int):=fun i hi=>ZbC (by omega)
 refine⟨by rw[Za4];exact yl,Zb2 (by omega),?_,fun j hj => ?_,by rw[List.length_set];exact tl,fun j hj => ?_,fun j hn => ?_,fun i hi => ?_,fun j hj => ?_⟩
 ·
  refine hM.sub.alike _ _ (hM.sub.lin _ _ h.dif (hM.own k hk hr) q) fun i hi => ?_
  obtain⟨z,hz⟩:=hy i hi
  refine⟨-z,?_⟩
  rw[Int.mul_neg,←hz,Int.neg_mul]
  show rd x (i:Int) - rd y (i:Int)+q*rd (row p (k:Int)) (i:Int) - (rd x (i:Int) - rd (mix m 1 y (-q) (row p (k:Int))) (i:Int))=_
  omega
 ·
  by_cases e:j=k
  ·
   subst e
   rw[Zbw (by omega),show dv m p j=rd (row p (j:Int)) (j:Int)from if_neg hr,show 1*rd y (j:Int) + -q*rd (row p (j:Int)) (j:Int)=rd y (j:Int)%rd (row p (j:Int)) (j:Int)by rw[Int.neg_mul,Int.mul_comm q];omega,Int.emod_eq_of_lt r0 (by omega)]
   exact r1
  ·
   obtain⟨a0,a1⟩:=h.ent j (by omega) (by omega)
   rw[Zbw (by omega),hP.zero j (by omega),Int.mul_zero,Int.add_zero,Int.one_mul,Int.emod_eq_of_lt a0 a1]
   exact h.lt j (by omega)
 ·
  by_cases e:j=k
  ·
   subst e;rw[Zbd (by omega)];omega
  ·
   rw[Zbk e];exact h.tbd j hj
 ·
  have e:j≠k:=fun e=>hr (e ▸ hn)
  rw[Zbk e];exact h.tnil j hn
 ·
  rw[ZdO,Zbd (by omega),Zmc k fun j hj=>Zbk (show j≠k by omega)]
  obtain⟨z,hz⟩:=hy i hi
  obtain⟨z', hz'⟩:=h.tak i hi
  refine⟨z' + z,?_⟩
  rw[Int.mul_add,←hz,←hz', Int.neg_mul]
  omega
 ·
  by_cases e:j=k
  ·
   subst e
   rw[Zbd (by omega),Int.mul_comm]
   omega
  ·
   rw[Zbk e];exact h.tlt j hj
theorem Least0.fin {m:Int} {W:Nat} {p:List (List Int)} {M:Vc→Prop} {x y t:List Int} (h:Least0 m W W p M x y t):Least m W p M x y:=⟨h.len,h.ent,h.dif,h.lt⟩
theorem Zi7 {m:Int} {y r:List Int} (ha:AllIn m y):mix m 1 y (-0) r=y:=by
 refine Zfg (Za4 ..) fun i i0 i1 => ?_
 rw[Za4]at i1
 obtain⟨n,rfl⟩:=Int.eq_ofNat_of_zero_le i0
 obtain⟨a0,a1⟩:=ha n (by omega) i1
 rw[Zbw (by omega),show(1:Int)*rd y (n:Int) + -0*rd r (n:Int)=rd y (n:Int)by simp]
 exact Int.emod_eq_of_lt a0 a1
def Zr (x:List Int):Prop:=∀i:Int,0≤i→i < x.length→rd x i=0
theorem Least.zero_iff {m:Int} (m0:0 < m) {W:Nat} {p:List (List Int)} {M:Vc→Prop} (hM:Lead m W p M) {x y:List Int} (h:Least m W p M x y):Zr y↔M (V x):=by
 have yl:=h.len
 constructor
 ·
  intro hz
  refine hM.sub.alike _ _ h.dif fun i hi => ?_
  rw[hz i (by omega) (by omega)]
  exact Zaw (by simp[V])
 ·
  intro hx
  have hz:Least m W p M x (List.replicate W 0):=⟨List.length_replicate,ZgR m0 W,hM.sub.alike _ _ hx fun i hi=>Zaw (by rw[ZbD];simp[V]),fun j hj=>by rw[ZbD];exact(dv_bd m0 hM.tab hj).1⟩
  rw[h.same m0 hM hM hz]
  exact fun i _ _=>ZbD _ _
theorem rank {g:List (List Int)} (hl:g.length≤maxLen) (hr:∀r∈g,r.length≤maxLen) (m:Int) (u:List Int) (hu:u.length≤maxLen) (n:Int) :
  (∃k:Nat,n=(k:Int)∧k≤3∧Grp g∧Mdl g m u∧nB g k≤49∧ZaL.f g m u n=some 0∧ZaX.f g m u n=some 0) ∨
  ∃c:Int,¬ c=0∧ZaL.f g m u n=some c∧ZaX.f g m u n=some c:=by
 have hA:=ZhQ g hl hr m u hu
 have hS:=Is_ g
 rw[ZaL.f_eq,ZaX.f_eq]
 by_cases h:GM g m u
 rotate_left
 ·
  rw[B_neg h]at hA
  have hG:Zam.f g m u n=some 1:=by rw[Zam.f_eq];((with_reducible repeat (first|refine Zl (by first|assumption|omega|rfl|exact B_pos (by omega)) ?_|refine Zk (by first|assumption|omega|decide|exact B_not (by omega)) ?_|refine Ze (by first|assumption) ?_|dsimp only));first|done|(with_reducible rfl)|simp (disch:=omega) only[w64]|(show False;done))
  refine .inr ⟨1,by omega,by((with_reducible repeat (first|refine Zl (by first|assumption|omega|rfl|exact B_pos (by omega)) ?_|refine Zk (by first|assumption|omega|decide|exact B_not (by omega)) ?_|refine Ze (by first|assumption) ?_|dsimp only));first|done|(with_reducible rfl)|simp (disch:=omega) only[w64]|(show False;done)),?_⟩
  by_cases h1:Grp g
  ·
   have hM:=Is02 h1 m u hu
   rw[B_neg fun k=>h ⟨h1,k⟩]at hM
   ((with_reducible repeat (first|refine Zl (by first|assumption|omega|rfl|exact B_pos (by omega)) ?_|refine Zk (by first|assumption|omega|decide|exact B_not (by omega)) ?_|refine Ze (by first|assumption) ?_|dsimp only));first|done|(with_reducible rfl)|simp (disch:=omega) only[w64]|(show False;done))
  ·
   ((with_reducible repeat (first|refine Zl (by first|assumption|omega|rfl|exact B_pos (by omega)) ?_|refine Zk (by first|assumption|omega|decide|exact B_not (by omega)) ?_|refine Ze (by first|assumption) ?_|dsimp only));first|done|(with_reducible rfl)|simp (disch:=omega) only[w64]|(show False;done))
 have hM:=Is02 h.1 m u hu
 rw[B_pos h]at hA
 rw[B_pos h.1]at hS
 rw[B_pos h.2]at hM
 have hD:=Zl8 n
 have hI:=In_ n 0 3
 by_cases h2:0≤n∧n≤3
 rotate_left
 ·
  rw[B_neg h2]at hD hI
  have hG:Zam.f g m u n=some 2:=by rw[Zam.f_eq];((with_reducible repeat (first|refine Zl (by first|assumption|omega|rfl|exact B_pos (by omega)) ?_|refine Zk (by first|assumption|omega|decide|exact B_not (by omega)) ?_|refine Ze (by first|assumption) ?_|dsimp only));first|done|(with_reducible rfl)|simp (disch:=omega) only[w64]|(show False;done))
  exact .inr ⟨2,by omega,by((with_reducible repeat (first|refine Zl (by first|assumption|omega|rfl|exact B_pos (by omega)) ?_|refine Zk (by first|assumption|omega|decide|exact B_not (by omega)) ?_|refine Ze (by first|assumption) ?_|dsimp only));first|done|(with_reducible rfl)|simp (disch:=omega) only[w64]|(show False;done)),by((with_reducible repeat (first|refine Zl (by first|assumption|omega|rfl|exact B_pos (by omega)) ?_|refine Zk (by first|assumption|omega|decide|exact B_not (by omega)) ?_|refine Ze (by first|assumption) ?_|dsimp only));first|done|(with_reducible rfl)|simp (disch:=omega) only[w64]|(show False;done))⟩
 rw[B_pos h2]at hD hI
 have hG:Zam.f g m u n=some 0:=by rw[Zam.f_eq];((with_reducible repeat (first|refine Zl (by first|assumption|omega|rfl|exact B_pos (by omega)) ?_|refine Zk (by first|assumption|omega|decide|exact B_not (by omega)) ?_|refine Ze (by first|assumption) ?_|dsimp only));first|done|(with_reducible rfl)|simp (disch:=omega) only[w64]|(show False;done))
 have hc:=ZfJ h.1 (d:=n) h2.1 (by omega)
 have hC:=Ze7 h.1 (d:=n) h2.1 (by omega)
 obtain⟨k,rfl⟩:=Int.eq_ofNat_of_zero_le h2.1
 obtain⟨b1,b2⟩:=nA_bd h.1 (e:=k) (by omega)
 have hR:ZaT.f g (k:Int)=some (decide (cells g (k:Int)≤49)):=by rw[ZaT.f_eq,hc];rfl
 by_cases h3:cells g (k:Int)≤49
 ·
  refine .inl ⟨k,rfl,by omega,h.1,h.2,by omega,?_,?_⟩
  ·
   rw[decide_eq_true h3]at hR
   ((with_reducible repeat (first|refine Zl (by first|assumption|omega|rfl|exact B_pos (by omega)) ?_|refine Zk (by first|assumption|omega|decide|exact B_not (by omega)) ?_|refine Ze (by first|assumption) ?_|dsimp only));first|done|(with_reducible rfl)|simp (disch:=omega) only[w64]|(show False;done))
  ·
   ((with_reducible repeat (first|refine Zl (by first|assumption|omega|rfl|exact B_pos (by omega)) ?_|refine Zk (by first|assumption|omega|decide|exact B_not (by omega)) ?_|refine Ze (by first|assumption) ?_|dsimp only));first|done|(with_reducible rfl)|simp (disch:=omega) only[w64]|(show False;done))
 ·
  refine .inr ⟨3,by omega,?_,?_⟩
  ·
   rw[decide_eq_false h3]at hR
   ((with_reducible repeat (first|refine Zl (by first|assumption|omega|rfl|exact B_pos (by omega)) ?_|refine Zk (by first|assumption|omega|decide|exact B_not (by omega)) ?_|refine Ze (by first|assumption) ?_|dsimp only));first|done|(with_reducible rfl)|simp (disch:=omega) only[w64]|(show False;done))
  ·
   ((with_reducible repeat (first|refine Zl (by first|assumption|omega|rfl|exact B_pos (by omega)) ?_|refine Zk (by first|assumption|omega|decide|exact B_not (by omega)) ?_|refine Ze (by first|assumption) ?_|dsimp only));first|done|(with_reducible rfl)|simp (disch:=omega) only[w64]|(show False;done))
end Go.Proofs.YtdamfbighdkcbaaGreat.V
namespace Go.Proofs.YtdamfbighdkcbaaGreat.V
open Go.RowKit Go.Proofs.YtdamfbighdkcbaaGreat.D
theorem rd_c0 (x:Int) (w:List Int):rd (x :: w) ((0:Nat):Int)=x:=by rw[ZcE];rfl
theorem rd_cs (x:Int) (w:List Int) (i:Nat):rd (x :: w) ((i+1:Nat):Int)=rd w (i:Int):=by rw[ZcE,ZcE];rfl
theorem V_c0 (x:Int) (w:List Int):V (x :: w) 0=x:=rd_c0 x w
theorem V_cs (x:Int) (w:List Int) (i:Nat):V (x :: w) (i+1)=V w i:=rd_cs x w i
def boxl:List Nat→List (List Int)
 | []=>[[]]
 | d :: ds=>(List.range d).flatMap fun x:Nat=>(boxl ds).map fun v=>(x:Int) :: v
def prodN:List Nat→Nat
 | []=>1
 | d :: ds=>d*prodN ds
theorem Ze0:∀{ds:List Nat} {v:List Int},v∈boxl ds↔v.length=ds.length∧∀i:Nat,i < ds.length→0≤rd v (i:Int)∧rd v (i:Int) < ((ds.getD i 0:Nat):Int)
 | [],v=>by
  rw[boxl,List.mem_singleton]
  exact⟨fun h=>by subst h;exact⟨rfl,fun i hi=>absurd hi (Nat.not_lt_zero _)⟩,fun h=>List.eq_nil_of_length_eq_zero h.1⟩
 | d :: ds,v=>by
  rw[boxl,List.mem_flatMap]
  constructor
  ·
   rintro⟨x,hx,hv⟩
   obtain⟨w,hw,rfl⟩:=List.mem_map.1 hv
   obtain⟨h1,h2⟩:=Ze0.1 hw
   have hx:=List.mem_range.1 hx
   refine⟨by rw[List.length_cons,List.length_cons,h1],fun i hi => ?_⟩
   cases i with
   | zero=>rw[rd_c0];exact⟨by omega,by show(x:Int) < ((d:Nat):Int);omega⟩
   | succ i=>rw[rd_cs];exact h2 i (by rw[List.length_cons]at hi;omega)
  ·
   rintro⟨h1,h2⟩
   cases v with
   | nil=>rw[List.length_cons]at h1;exact absurd h1 (by simp)
   | cons y w =>
    rw[List.length_cons,List.length_cons]at h1
    obtain⟨y0,y1⟩:=h2 0 (by rw[List.length_cons];omega)
    rw[rd_c0]at y0 y1
    have y1:y < (d:Int):=y1
    refine⟨y.toNat,List.mem_range.2 (by omega),List.mem_map.2 ⟨w,Ze0.2 ⟨by omega,fun i hi => ?_⟩,by rw[Int.toNat_of_nonneg y0]⟩⟩
    have:=h2 (i+1) (by rw[List.length_cons];omega)
    rw[rd_cs]at this
    exact this
theorem Zdx:∀ds:List Nat,(boxl ds).Nodup
 | []=>List.nodup_cons.2 ⟨fun h=>(by cases h),List.nodup_nil⟩
 | d :: ds=>by
  rw[boxl,List.Nodup,List.pairwise_flatMap]
  refine⟨fun x _ => ?_,?_⟩
  ·
   rw[List.pairwise_map]
   exact List.Pairwise.imp (fun {a b} h e=>h (List.cons.inj e).2) (Zdx ds)
  ·
   refine List.Pairwise.imp (fun {x y} h a ha b hb e => ?_) (List.nodup_range (n:=d))
   obtain⟨_,_,rfl⟩:=List.mem_map.1 ha
   obtain⟨_,_,rfl⟩:=List.mem_map.1 hb
   have:=(List.cons.inj e).1
   omega
theorem Zgm {α β : Type} (F : α → List β) (n:Nat):∀l:List α,(∀x∈l,(F x).length=n)→(l.flatMap F).length=l.length*n
 | [],_=>by simp
 | x :: l,h=>by
  rw[List.flatMap_cons,List.length_append,Zgm F n l fun y hy=>h y (List.mem_cons_of_mem _ hy),h x List.mem_cons_self,List.length_cons,Nat.succ_mul]
  omega
theorem ZdH:∀ds:List Nat,(boxl ds).length=prodN ds
 | []=>rfl
 | d :: ds=>by rw[boxl,Zgm _ (prodN ds) _ fun x _=>by rw[List.length_map,ZdH ds],List.length_range];rfl
def vecs (m:Int) (W:Nat):List (List Int):=boxl (List.replicate W m.toNat)
theorem Zgp {m:Int} (m0:0 < m) {W:Nat} {v:List Int}:v∈vecs m W↔v.length=W∧AllIn m v:=by
 rw[vecs,Ze0,List.length_replicate]
 refine and_congr_right fun hl => ?_
 have e:∀i:Nat,i < W→(((List.replicate W m.toNat).getD i 0:Nat):Int)=m:=fun i hi=>by
  rw[List.getD_eq_getElem?_getD,List.getElem?_replicate,if_pos hi,Option.getD_some];omega
 constructor
 ·
  intro h i i0 i1
  obtain⟨n,rfl⟩:=Int.eq_ofNat_of_zero_le i0
  have:=h n (by omega)
  rwa[e n (by omega)]at this
 ·
  intro h i hi
  rw[e i hi]
  exact h i (by omega) (by omega)
noncomputable def ctl (m:Int) (W:Nat) (P:List Int→Prop):List (List Int):=(vecs m W).filter fun v=>B (P v)
noncomputable def ct (m:Int) (W:Nat) (M:Vc→Prop):Nat:=(ctl m W fun v=>M (V v)).length
theorem ZbE {m:Int} (m0:0 < m) {W:Nat} {P:List Int→Prop} {v:List Int}:v∈ctl m W P↔(v.length=W∧AllIn m v)∧P v:=by
 rw[ctl,List.mem_filter,Zgp m0,B_iff]
theorem Zct (m:Int) (W:Nat) (P:List Int→Prop):(ctl m W P).Nodup:=(Zdx _).filter _
theorem ZhR {α β γ : Type} [DecidableEq γ] {A:List α} {C:List β} {L:List γ} (hA:A.Nodup) (hC:C.Nodup) (hL:L.Nodup) (f : α → β → γ) (h1:∀a∈A,∀c∈C,f a c∈L)
  (h2:∀a∈A,∀c∈C,∀a' ∈ A,∀c' ∈ C,f a c=f a' c' → a=a' ∧ c=c') (h3:∀v∈L,∃a∈A,∃c∈C,f a c=v):L.length=A.length*C.length:=by
 have hF:(A.flatMap fun a=>C.map fun c=>f a c).length=A.length*C.length:=Zgm _ _ _ fun a _=>List.length_map ..
 have hn:(A.flatMap fun a=>C.map fun c=>f a c).Nodup:=by
  rw[List.Nodup,List.pairwise_flatMap]
  refine⟨fun a ha => ?_,?_⟩
  ·
   rw[List.pairwise_map]
   exact List.Pairwise.imp_of_mem (fun {x y} hx hy h e=>h (h2 a ha x hx a ha y hy e).2) hC
  ·
   refine List.Pairwise.imp_of_mem (fun {a b} ha hb h x hx y hy e => ?_) hA
   obtain⟨c,hc,rfl⟩:=List.mem_map.1 hx
   obtain⟨c', hc', rfl⟩:=List.mem_map.1 hy
   exact h (h2 a ha c hc b hb c' hc' e).1
 rw[←hF]
 apply Nat.le_antisymm
 ·
  refine nd_le hL fun v hv => ?_
  obtain⟨a,ha,c,hc,e⟩:=h3 v hv
  exact List.mem_flatMap.2 ⟨a,ha,List.mem_map.2 ⟨c,hc,e⟩⟩
 ·
  refine nd_le hn fun v hv => ?_
  obtain⟨a,ha,hv⟩:=List.mem_flatMap.1 hv
  obtain⟨c,hc,rfl⟩:=List.mem_map.1 hv
  exact h1 a ha c hc
theorem Zna {α γ : Type} [DecidableEq γ] {A:List α} {L:List γ} (hA:A.Nodup) (f : α → γ) (h1:∀a∈A,f a∈L) (h2:∀a∈A,∀b∈A,f a=f b→a=b):A.length≤L.length:=by
 have hn:(A.map f).Nodup:=by
  rw[List.Nodup,List.pairwise_map]
  exact List.Pairwise.imp_of_mem (fun {x y} hx hy h e=>h (h2 x hx y hy e)) hA
 have:=nd_le hn fun x hx=>by
  obtain⟨a,ha,rfl⟩:=List.mem_map.1 hx
  exact h1 a ha
 rwa[List.length_map]at this
def nf (m:Int) (W:Nat) (x:Vc):List Int:=(List.range W).map fun i:Nat=>x i%m
theorem ZeO (m:Int) (W:Nat) (x:Vc):(nf m W x).length=W:=by simp[nf]
theorem nf_rd {m:Int} {W:Nat} {x:Vc} {i:Nat} (h:i < W):rd (nf m W x) (i:Int)=x i%m:=by
 rw[Zbi (by rw[ZeO];exact h)]
 simp[nf]
theorem nf_in {m:Int} (m0:0 < m) (W:Nat) (x:Vc):AllIn m (nf m W x):=Zby fun z hz=>by
 obtain⟨i,_,rfl⟩:=List.mem_map.1 hz
 exact⟨Int.emod_nonneg _ (by omega),Int.emod_lt_of_pos _ m0⟩
theorem ZcL {m:Int} {W:Nat} {x:Vc} {i:Nat} (h:i < W):m∣x i - V (nf m W x) i:=by
 rw[show V (nf m W x) i=x i%m from nf_rd h]
 exact Int.dvd_self_sub_emod
theorem Zbo {m a b:Int} (h:m∣a - b):m∣b - a:=by
 obtain⟨q,hq⟩:=h
 exact⟨-q,by rw[Int.mul_neg];omega⟩
theorem dvd_trans' {m a b c:Int} (h:m∣a - b) (k:m∣b - c):m∣a - c:=by
 have:=Int.dvd_add h k
 rwa[show a - b+(b - c)=a - c by omega]at this
theorem Sub.iff {m:Int} {W:Nat} {M:Vc→Prop} (hM:Sub m W M) {x y:Vc} (h:∀i,i < W→m∣x i - y i):M x↔M y:=⟨fun k=>hM.alike _ _ k h,fun k=>hM.alike _ _ k fun i hi=>Zbo (h i hi)⟩
theorem Zhn {m:Int} (m0:0 < m) {W:Nat} {M:Vc→Prop} (hM:Sub m W M) {x:Vc}:nf m W x∈ctl m W (fun v=>M (V v))↔M x:=by
 rw[ZbE m0]
 exact⟨fun h=>(hM.iff fun i hi=>ZcL hi).2 h.2,fun h=>⟨⟨ZeO ..,nf_in m0 _ _⟩,(hM.iff fun i hi=>ZcL hi).1 h⟩⟩
theorem ZfO {m a b:Int} (h:m∣a - b):a%m=b%m:=(Int.emod_eq_emod_iff_emod_sub_eq_zero).2 (Int.emod_eq_zero_of_dvd h)
theorem ZeA {m:Int} (m0:0 < m) {W:Nat} {v w:List Int} (hv:v.length=W∧AllIn m v) (hw:w.length=W∧AllIn m w) (h:∀i,i < W→m∣V v i - V w i):v=w:=by
 refine Zfg (by omega) fun i i0 i1 => ?_
 obtain⟨n,rfl⟩:=Int.eq_ofNat_of_zero_le i0
 have e:=ZfO (h n (by omega))
 obtain⟨a0,a1⟩:=hv.2 n (by omega) (by omega)
 obtain⟨b0,b1⟩:=hw.2 n (by omega) (by omega)
 rwa[show V v n=rd v (n:Int)from rfl,show V w n=rd w (n:Int)from rfl,Int.emod_eq_of_lt a0 a1,Int.emod_eq_of_lt b0 b1]at e
theorem nf_eq {m:Int} {W:Nat} {x y:Vc} (h:nf m W x=nf m W y):∀i,i < W→m∣x i - y i:=fun i hi=>by
 have:=congrArg (fun l=>rd l (i:Int)) h
 rw[nf_rd hi,nf_rd hi]at this
 exact Int.dvd_of_emod_eq_zero ((Int.emod_eq_emod_iff_emod_sub_eq_zero).1 this)
theorem ZiQ {m:Int} {W:Nat} {M M' : Vc→Prop} (m0:0 < m) (h:∀x,M x↔M' x):ct m W M=ct m W M' := by
 rw[show M=M' from funext fun x=>propext (h x)]
theorem Zjr (m:Int) (W:Nat):(vecs m W).length=m.toNat ^ W:=by
 rw[vecs,ZdH]
 induction W with
 | zero=>rfl
 | succ W ih=>rw[List.replicate_succ,prodN,ih,Nat.pow_succ,Nat.mul_comm]
theorem ZnK {m:Int} (W:Nat):ct m W (fun _=>True)=m.toNat ^ W:=by
 rw[←Zjr,ct,ctl]
 congr 1
 exact List.filter_eq_self.2 fun v _=>B_pos trivial
structure Aut (m:Int) (r:Nat) (T S:Vc→Vc):Prop where
 t1:∀x y c i,i < r→m∣T (fun i=>x i+c*y i) i - (T x i+c*T y i)
 s1:∀x y c i,i < r→m∣S (fun i=>x i+c*y i) i - (S x i+c*S y i)
 t2:∀x y,(∀i,i < r→m∣x i - y i)→∀i,i < r→m∣T x i - T y i
 s2:∀x y,(∀i,i < r→m∣x i - y i)→∀i,i < r→m∣S x i - S y i
 st:∀x i,i < r→m∣S (T x) i - x i
 ts:∀x i,i < r→m∣T (S x) i - x i
def ad (m:Int) (r:Nat) (d:Int) (M:Vc→Prop) (x:Vc):Prop:=∃l e:Vc,M l∧∀i,i < r→m∣l i+d*e i - x i
theorem Ziz {m:Int} {r:Nat} {d:Int} {M:Vc→Prop} (hM:Sub m r M):Sub m r (ad m r d M) where
 zero:=⟨_,fun _=>0,hM.zero,fun i _=>Zaw (by simp)⟩
 lin:=fun x y ⟨l,e,h1,h2⟩ ⟨l', e', h3,h4⟩ c=>⟨_,fun i=>e i+c*e' i,hM.lin _ _ h1 h3 c,fun i hi=>by
  have:=Int.dvd_add (h2 i hi) (Int.dvd_mul_of_dvd_right (b:=c) (h4 i hi))
  show m∣l i+c*l' i+d*(e i+c*e' i) - (x i+c*y i)
  rw[show l i+d*e i - x i+c*(l' i+d*e' i - y i)=l i+c*l' i+d*(e i+c*e' i) - (x i+c*y i)by
   rw[Int.mul_add d,Int.mul_sub,Int.mul_add,Int.mul_left_comm d c];omega]at this
  exact this⟩
 alike:=fun x y ⟨l,e,h1,h2⟩ h=>⟨l,e,h1,fun i hi=>dvd_trans' (h2 i hi) (h i hi)⟩
theorem ZmA {m:Int} (m0:0 < m) {r r' : Nat} {M M' : Vc→Prop} (hM:Sub m r M) (hM' : Sub m r' M') (T:Vc→Vc) (h:∀x,M x→M' (T x)) (inj:∀x y,M x→M y→(∀i,i < r' → m∣T x i - T y i)→∀i,i < r→m∣x i - y i):ct m r M≤ct m r' M' := by
 refine Zna (Zct ..) (fun v=>nf m r' (T (V v))) (fun v hv=>(Zhn m0 hM').2 (h _ ((ZbE m0).1 hv).2)) fun v hv w hw e => ?_
 obtain⟨a1,a2⟩:=(ZbE m0).1 hv
 obtain⟨b1,b2⟩:=(ZbE m0).1 hw
 exact ZeA m0 a1 b1 (inj _ _ a2 b2 (nf_eq e))
theorem Aut.ct {m:Int} (m0:0 < m) {r:Nat} {T S:Vc→Vc} (h:Aut m r T S) {M M' : Vc→Prop} (hM:Sub m r M) (hM' : Sub m r M') (h1:∀x,M x→M' (T x)) (h2:∀x,M' x→M (S x)) (d:Int):ct m r (ad m r d M)=ct m r (ad m r d M'):=by
 apply Nat.le_antisymm
 ·
  refine ZmA m0 (Ziz hM) (Ziz hM') T (fun x ⟨l,e,k1,k2⟩=>⟨T l,T e,h1 l k1,fun i hi => ?_⟩) fun x y _ _ e i hi => ?_
  ·
   exact dvd_trans' (Zbo (h.t1 l e d i hi)) (h.t2 _ _ k2 i hi)
  ·
   exact dvd_trans' (dvd_trans' (Zbo (h.st x i hi)) (h.s2 _ _ e i hi)) (h.st y i hi)
 ·
  refine ZmA m0 (Ziz hM') (Ziz hM) S (fun x ⟨l,e,k1,k2⟩=>⟨S l,S e,h2 l k1,fun i hi => ?_⟩) fun x y _ _ e i hi => ?_
  ·
   exact dvd_trans' (Zbo (h.s1 l e d i hi)) (h.s2 _ _ k2 i hi)
  ·
   exact dvd_trans' (dvd_trans' (Zbo (h.ts x i hi)) (h.t2 _ _ e i hi)) (h.ts y i hi)
theorem ZlU {m:Int} (m0:0 < m) {r:Nat} {n d:Int} (hn:n∣m) (hd:d∣m) (n0:0 < n) (d0:0 < d) {M M' : Vc→Prop} (hM' : Sub m r M') (h:∀x,M x↔n∣x 0∧M' (fun i=>x (i+1))):ct m (r+1) (ad m (r+1) d M)=(m / ((Int.gcd n d:Nat):Int)).toNat*ct m r (ad m r d M'):=by
 obtain⟨g,hg⟩:∃g,g=((Int.gcd n d:Nat):Int):=⟨_,rfl⟩
 have g0:0 < g:=by rw[hg];exact_mod_cast Int.gcd_pos_of_ne_zero_left d (by omega)
 have gn:g∣n:=by rw[hg];exact Int.gcd_dvd_left ..
 have gd:g∣d:=by rw[hg];exact Int.gcd_dvd_right ..
 have gm:g∣m:=Int.dvd_trans gn hn
 obtain⟨q,hq⟩:=gm
 have q0:0 < q:=by
  rcases Int.lt_or_le 0 q with h|h
  ·
   exact h
  ·
   have:=Int.mul_le_mul_of_nonneg_left h (Int.le_of_lt g0);omega
 have hmq:m / g=q:=by rw[hq];exact Int.mul_ediv_cancel_left _ (by omega)
 rw[←hg,hmq]
 have hr:q.toNat=(List.range q.toNat).length:=List.length_range.symm
 rw[hr]
 refine ZhR (List.nodup_range) (Zct ..) (Zct ..) (fun(a:Nat) c=>(g*(a:Int)) :: c) (fun a ha c hc => ?_) (fun a ha c hc a' ha' c' hc' e => ?_) fun v hv => ?_
 ·
  have ha:=List.mem_range.1 ha
  obtain⟨⟨c1,c2⟩,l,e,c3,c4⟩:=(ZbE m0).1 hc
  have b0:0≤g*(a:Int):=Int.mul_nonneg (by omega) (by omega)
  have b1:g*(a:Int) < m:=by rw[hq];exact Int.mul_lt_mul_of_pos_left (by omega) g0
  refine(ZbE m0).2 ⟨⟨by rw[List.length_cons,c1],Zby fun z hz => ?_⟩,?_⟩
  ·
   rcases List.mem_cons.1 hz with rfl|hz
   ·
    exact⟨b0,b1⟩
   ·
    exact c2.mem hz
  ·
   obtain⟨N,rfl⟩:=Int.eq_ofNat_of_zero_le (Int.le_of_lt n0)
   obtain⟨D', rfl⟩:=Int.eq_ofNat_of_zero_le (Int.le_of_lt d0)
   obtain⟨s,t,hst⟩:=bez N D'
   rw[show((Nat.gcd N D' : Nat):Int)=g from hg.symm]at hst
   refine⟨fun i=>if i=0 then s*(N:Int)*a else l (i - 1),fun i=>if i=0 then t*a else e (i - 1),(h _).2 ⟨?_,?_⟩,fun i hi => ?_⟩
   ·
    exact⟨s*a,by show s*(N:Int)*a=N*(s*a);rw[Int.mul_comm s,Int.mul_assoc]⟩
   ·
    exact c3
   ·
    cases i with
    | zero =>
     refine Zaw ?_
     show s*(N:Int)*a+(D' : Int)*(t*a)=V (g*(a:Int) :: c) 0
     rw[V_c0,←hst,Int.add_mul,Int.mul_left_comm (D' : Int),Int.mul_assoc t]
    | succ i =>
     have:=c4 i (by omega)
     rw[V_cs]
     exact this
 ·
  have h1:=(List.cons.inj e).1
  exact⟨by have:=Int.eq_of_mul_eq_mul_left (show g≠0 by omega) h1;omega,(List.cons.inj e).2⟩
 ·
  obtain⟨⟨v1,v2⟩,l,e,v3,v4⟩:=(ZbE m0).1 hv
  cases v with
  | nil=>rw[List.length_nil]at v1;omega
  | cons y w =>
   rw[List.length_cons]at v1
   obtain⟨l1,l2⟩:=(h l).1 v3
   obtain⟨y0,y1⟩:=v2.mem (List.mem_cons_self)
   have gy:g∣y:=by
    have k:=v4 0 (by omega)
    rw[V_c0]at k
    have k1:=Int.dvd_sub (Int.dvd_add (Int.dvd_trans gn l1) (Int.dvd_mul_of_dvd_left (c:=e 0) gd)) (Int.dvd_trans ⟨q,hq⟩ k)
    rwa[show l 0+d*e 0 - (l 0+d*e 0 - y)=y by omega]at k1
   obtain⟨a,ha⟩:=gy
   have a0:0≤a:=by
    rcases Int.lt_or_le a 0 with h|h
    ·
     have:=Int.mul_le_mul_of_nonneg_left (show a ≤ -1 by omega) (Int.le_of_lt g0);omega
    ·
     exact h
   have a1:a < q:=by
    rcases Int.lt_or_le a q with h|h
    ·
     exact h
    ·
     have:=Int.mul_le_mul_of_nonneg_left h (Int.le_of_lt g0);omega
   refine⟨a.toNat,List.mem_range.2 (by omega),w,(ZbE m0).2 ⟨⟨by omega,Zby fun z hz=>v2.mem (List.mem_cons_of_mem _ hz)⟩,_,fun i=>e (i+1),l2,fun i hi => ?_⟩,by rw[Int.toNat_of_nonneg a0,←ha]⟩
   have:=v4 (i+1) (by omega)
   rwa[V_cs]at this
def cmb (G:Nat→Vc) (c:Vc):Nat→Vc
 | 0=>fun _=>0
 | k+1=>fun i=>cmb G c k i+c k*G k i
theorem ZbV (G:Nat→Vc) (c e:Vc) (t:Int) (i:Nat):∀k,cmb G (fun i=>c i+t*e i) k i=cmb G c k i+t*cmb G e k i
 | 0=>by simp[cmb]
 | k+1=>by
  show cmb G (fun i=>c i+t*e i) k i+(c k+t*e k)*G k i=cmb G c k i+c k*G k i+t*(cmb G e k i+e k*G k i)
  rw[ZbV G c e t i k,Int.add_mul,Int.mul_add,Int.mul_assoc];omega
theorem ZcJ {m:Int} {G:Nat→Vc} {c e:Vc} (i:Nat):∀k,(∀j,j < k→m∣c j - e j)→m∣cmb G c k i - cmb G e k i
 | 0,_=>Zaw (by simp[cmb])
 | k+1,h=>by
  have h1:=ZcJ (G:=G) i k fun j hj=>h j (by omega)
  have h2:=Int.dvd_add h1 (Int.dvd_mul_of_dvd_left (c:=G k i) (h k (by omega)))
  show m∣cmb G c k i+c k*G k i - (cmb G e k i+e k*G k i)
  rwa[Int.sub_mul,show ∀a b c d:Int,a - b+(c - d)=a+c - (b+d)from fun a b c d=>by omega]at h2
theorem Zio {m:Int} {W r:Nat} {G:Nat→Vc} {X:Vc→Prop} (hX:Sub m W X):Sub m r fun c=>X (cmb G c r) where
 zero:=hX.alike _ _ hX.zero fun i _=>by
  have:=ZbV G (fun _=>0) (fun _=>0) (-1) i r
  simp only[Int.mul_zero,Int.add_zero]at this
  exact Zaw (by omega)
 lin:=fun x y h1 h2 c=>hX.alike _ _ (hX.lin _ _ h1 h2 c) fun i _=>Zaw (by rw[ZbV])
 alike:=fun x y h k=>hX.alike _ _ h fun i _=>ZcJ i r k
theorem Sub.neg {m:Int} {W:Nat} {M:Vc→Prop} (hM:Sub m W M) {x y:Vc} (hx:M x) (hy:M y):M fun i=>x i - y i:=hM.alike _ _ (hM.lin _ _ hx hy (-1)) fun i _=>Zaw (by omega)
theorem fib {m:Int} (m0:0 < m) {W r:Nat} {G:Nat→Vc} {X:Vc→Prop} (hX:Sub m W X) (hz:∀x,X x→∃c,∀i,i < W→m∣cmb G c r i - x i) :
  ct m r (fun c=>X (cmb G c r))=ct m W X*ct m r (fun c=>∀i,i < W→m∣cmb G c r i):=by
 have hZ:Sub m W fun x=>∀i,i < W→m∣x i:=⟨fun i _=>Int.dvd_zero _,fun x y h k c i hi=>Int.dvd_add (h i hi) (Int.dvd_mul_of_dvd_right (k i hi)),fun x y h k i hi=>by
  have:=Int.dvd_sub (h i hi) (k i hi)
  rwa[show x i - (x i - y i)=y i by omega]at this⟩
 have hK:=Zio (r:=r) (G:=G) hZ
 have hs:∀v:List Int,∃c:Vc,X (V v)→∀i,i < W→m∣cmb G c r i - V v i:=fun v=>by
  by_cases h:X (V v)
  ·
   obtain⟨c,hc⟩:=hz _ h;exact⟨c,fun _=>hc⟩
  ·
   exact⟨fun _=>0,fun k=>absurd k h⟩
 obtain⟨s,hs⟩:=Classical.axiomOfChoice hs
 refine ZhR (Zct ..) (Zct ..) (Zct ..) (fun a c=>nf m r fun i=>s a i+1*V c i) (fun a ha c hc => ?_) (fun a ha c hc a' ha' c' hc' e => ?_) fun v hv => ?_
 ·
  obtain⟨a1,a2⟩:=(ZbE m0).1 ha
  obtain⟨c1,c2⟩:=(ZbE m0).1 hc
  refine(Zhn m0 (Zio hX)).2 (hX.alike _ _ a2 fun i hi => ?_)
  rw[ZbV,Int.one_mul]
  have:=Int.dvd_add (hs a a2 i hi) (c2 i hi)
  rw[show cmb G (s a) r i - V a i+cmb G (V c) r i=cmb G (s a) r i+cmb G (V c) r i - V a i by omega]at this
  exact Zbo this
 ·
  obtain⟨a1,a2⟩:=(ZbE m0).1 ha
  obtain⟨c1,c2⟩:=(ZbE m0).1 hc
  obtain⟨a1', a2'⟩:=(ZbE m0).1 ha'
  obtain⟨c1', c2'⟩:=(ZbE m0).1 hc'
  have k:=nf_eq e
  have ea:a=a' := ZeA m0 a1 a1' fun i hi=>by
   have k1:=ZcJ (m:=m) (G:=G) i r k
   rw[ZbV,ZbV,Int.one_mul,Int.one_mul]at k1
   have k2:=hs a a2 i hi
   have k3:=hs a' a2' i hi
   have k4:=c2 i hi
   have k5:=c2' i hi
   obtain⟨z1,e1⟩:=k1;obtain⟨z2,e2⟩:=k2;obtain⟨z3,e3⟩:=k3;obtain⟨z4,e4⟩:=k4;obtain⟨z5,e5⟩:=k5
   exact⟨z1 - z2+z3 - z4+z5,by rw[Int.mul_add,Int.mul_sub,Int.mul_add,Int.mul_sub];omega⟩
  subst ea
  exact⟨rfl,ZeA m0 c1 c1' fun i hi=>by
   have:=k i hi
   rwa[Int.one_mul,Int.one_mul,show ∀a b c:Int,a+b - (a+c)=b - c from fun a b c=>by omega]at this⟩
 ·
  obtain⟨v1,v2⟩:=(ZbE m0).1 hv
  obtain⟨a,ha⟩:∃a,a=nf m W (cmb G (V v) r):=⟨_,rfl⟩
  have am:a∈ctl m W (fun v=>X (V v)):=by rw[ha];exact(Zhn m0 hX).2 v2
  have a2:=((ZbE m0).1 am).2
  refine⟨a,am,nf m r fun i=>V v i+(-1)*s a i,(Zhn m0 hK).2 fun i hi => ?_,?_⟩
  ·
   rw[ZbV]
   have k1:=hs a a2 i hi
   have k2:=ZcL (m:=m) (x:=cmb G (V v) r) hi
   rw[←ha]at k2
   have:=Int.dvd_sub k2 k1
   rwa[show ∀a b c:Int,a - b - (c - b)=a + -1*c from fun a b c=>by omega]at this
  ·
   refine ZeA m0 ⟨ZeO ..,nf_in m0 _ _⟩ v1 fun i hi => ?_
   have k1:=ZcL (m:=m) (x:=fun i=>s a i+1*V (nf m r fun i=>V v i+(-1)*s a i) i) hi
   have k2:=ZcL (m:=m) (x:=fun i=>V v i+(-1)*s a i) hi
   have:=Int.dvd_add k1 k2
   rw[show ∀a b c d:Int,a+1*b - c+(d + -1*a - b)=d - c from fun a b c d=>by omega]at this
   exact Zbo this
theorem Zl1 {m:Int} (m2:2≤m) (m12:m≤12) {W:Nat} {p:List (List Int)} {M:Vc→Prop} (hM:Lead m W p M) {x:List Int} (hx:x.length=W) (ha:AllIn m x):∃y,Least m W p M x y:=by
 have key:∀k,k≤W→∃y t,Least0 m W k p M x y t:=by
  intro k
  induction k with
  | zero=>exact fun _=>⟨_,_,Least0.begin hM hx ha⟩
  | succ k ih =>
   intro hk
   obtain⟨y,t,h⟩:=ih (by omega)
   by_cases hr:row p (k:Int)=[]
   ·
    exact⟨_,_,h.skip (by omega) hr⟩
   ·
    exact⟨_,_,h.take m2 m12 hM (by omega) hr⟩
 obtain⟨y,t,h⟩:=key W (Nat.le_refl _)
 exact⟨y,h.fin⟩
noncomputable def dvl (m:Int) (p:List (List Int)) (W:Nat):List Nat:=(List.range W).map fun j=>(dv m p j).toNat
theorem Zm5 (m:Int) (p:List (List Int)) (W:Nat):(dvl m p W).length=W:=by simp[dvl]
theorem Zm3 {m:Int} (m2:2≤m) (m12:m≤12) {W:Nat} {p:List (List Int)} {M:Vc→Prop} (hM:Lead m W p M):m.toNat ^ W=ct m W M*prodN (dvl m p W):=by
 have m0:0 < m:=by omega
 rw[←Zjr,←ZdH]
 have hb:∀c,c∈boxl (dvl m p W)↔c.length=W∧∀i:Nat,i < W→0≤rd c (i:Int)∧rd c (i:Int) < dv m p i:=fun c=>by
  rw[Ze0,Zm5]
  refine and_congr_right fun _=>forall_congr' fun i=>forall_congr' fun hi => ?_
  rw[show(((dvl m p W).getD i 0:Nat):Int)=dv m p i by
   have:=(dv_bd m0 hM.tab hi).1
   simp[dvl,hi];omega]
 have hc:∀c∈boxl (dvl m p W),c.length=W∧AllIn m c:=fun c hc=>by
  obtain⟨h1,h2⟩:=(hb c).1 hc
  refine⟨h1,fun i i0 i1 => ?_⟩
  obtain⟨n,rfl⟩:=Int.eq_ofNat_of_zero_le i0
  have:=h2 n (by omega)
  have:=(dv_bd m0 hM.tab (show n < W by omega)).2.1
  omega
 refine ZhR (Zct ..) (Zdx _) (Zdx _) (fun a c=>nf m W fun i=>V a i+1*V c i) (fun a ha c hc => ?_) (fun a ha c hc' a' ha' c' hc'' e => ?_) fun v hv => ?_
 ·
  exact(Zgp m0).2 ⟨ZeO ..,nf_in m0 _ _⟩
 ·
  obtain⟨a1,a2⟩:=(ZbE m0).1 ha
  obtain⟨a1', a2'⟩:=(ZbE m0).1 ha'
  have k:=nf_eq e
  obtain⟨x,hx⟩:∃x,x=nf m W fun i=>V a i+1*V c i:=⟨_,rfl⟩
  have key:∀a c,c∈boxl (dvl m p W)→M (V a)→(∀i,i < W→m∣V a i+1*V c i - V x i)→Least m W p M x c:=fun a c h1 h2 h3=>by
   obtain⟨c1,c2⟩:=(hb c).1 h1
   refine⟨c1,(hc c h1).2,hM.sub.alike _ _ h2 fun i hi => ?_,fun j hj=>(c2 j hj).2⟩
   have:=h3 i hi
   rwa[show V a i+1*V c i - V x i=V a i - (rd x (i:Int) - rd c (i:Int))by simp only[V];omega]at this
  have e1:=key a c hc' a2 fun i hi=>by rw[hx];exact ZcL (x:=fun i=>V a i+1*V c i) hi
  have e2:=key a' c' hc'' a2' fun i hi=>by rw[hx,e];exact ZcL (x:=fun i=>V a' i+1*V c' i) hi
  have ec:=e1.same m0 hM hM e2
  subst ec
  exact⟨ZeA m0 a1 a1' fun i hi=>by
   have:=k i hi
   rwa[show ∀a b c:Int,a+1*b - (c+1*b)=a - c from fun a b c=>by omega]at this,rfl⟩
 ·
  have v1:=(Zgp m0).1 hv
  obtain⟨y,hy⟩:=Zl1 m2 m12 hM v1.1 v1.2
  refine⟨nf m W fun i=>rd v (i:Int) - rd y (i:Int),(Zhn m0 hM.sub).2 hy.dif,y,(hb y).2 ⟨hy.len,fun i hi=>⟨(hy.ent i (by omega) (by have:=hy.len;omega)).1,hy.lt i hi⟩⟩,ZeA m0 ⟨ZeO ..,nf_in m0 _ _⟩ v1 fun i hi => ?_⟩
  have k1:=ZcL (m:=m) (x:=fun i=>V (nf m W fun i=>rd v (i:Int) - rd y (i:Int)) i+1*V y i) hi
  have k2:=ZcL (m:=m) (x:=fun i=>rd v (i:Int) - rd y (i:Int)) hi
  have:=Int.dvd_add k1 k2
  rw[show V y i=rd y (i:Int)from rfl,show ∀a b c d:Int,a+1*b - c+(d - b - a)=d - c from fun a b c d=>by omega]at this
  exact Zbo this
end Go.Proofs.YtdamfbighdkcbaaGreat.V
namespace Go.Proofs.YtdamfbighdkcbaaGreat.V
open Go.RowKit Go.Proofs.YtdamfbighdkcbaaGreat.D
def Gl (rows:List (List Int)):Vc→Prop:=fun g=>∃r∈rows,g=V r
def Mx (m:Int) (W:Nat) (rows:List (List Int)):Vc→Prop:=Sp m W (Gl rows)
def Eqd (m:Int) (W:Nat) (M M' : Vc→Prop):Prop:=∀d,ct m W (ad m W d M)=ct m W (ad m W d M')
theorem Eqd.trans {m:Int} {W:Nat} {M M' M'' : Vc→Prop} (h:Eqd m W M M') (k:Eqd m W M' M''):Eqd m W M M'' := fun d=>(h d).trans (k d)
theorem Eqd.of {m:Int} {W:Nat} {M M' : Vc→Prop} (h:∀x,M x↔M' x):Eqd m W M M' := fun d=>by rw[show M=M' from funext fun x=>propext (h x)]
theorem ZnI {m:Int} {W:Nat} {rows:List (List Int)} {r:List Int} (h:r∈rows):Mx m W rows (V r) := .gen ⟨r,h,rfl⟩
theorem Mx_le {m:Int} {W:Nat} {rows rows' : List (List Int)} (h:∀r∈rows,Mx m W rows' (V r)) {x:Vc} (hx:Mx m W rows x):Mx m W rows' x:=hx.mono fun g ⟨r,hr,e⟩=>e ▸ h r hr
theorem Zc9 {m:Int} {W:Nat} {rows rows' : List (List Int)} (h:∀r∈rows,Mx m W rows' (V r)) (h' : ∀r∈rows', Mx m W rows (V r)):Eqd m W (Mx m W rows) (Mx m W rows') := .of fun x=>⟨Mx_le h,Mx_le h'⟩
def pairT (a b:Nat) (p q s t:Int) (x:Vc):Vc:=fun i=>if i=a then p*x a+q*x b else if i=b then s*x a+t*x b else x i
theorem ZhB (a b:Nat) (p q s t:Int) (x y:Vc) (c:Int):pairT a b p q s t (fun i=>x i+c*y i)=fun i=>pairT a b p q s t x i+c*pairT a b p q s t y i:=by
 funext i
 unfold pairT
 by_cases h1:i=a
 ·
  rw[if_pos h1,if_pos h1,if_pos h1,Int.mul_add,Int.mul_add,Int.mul_add,Int.mul_left_comm c p,Int.mul_left_comm c q];omega
 ·
  rw[if_neg h1,if_neg h1,if_neg h1]
  by_cases h2:i=b
  ·
   rw[if_pos h2,if_pos h2,if_pos h2,Int.mul_add,Int.mul_add,Int.mul_add,Int.mul_left_comm c s,Int.mul_left_comm c t];omega
  ·
   rw[if_neg h2,if_neg h2,if_neg h2]
theorem Zfz {m:Int} {r a b:Nat} (ha:a < r) (hb:b < r) (p q s t:Int) {x y:Vc} (h:∀i,i < r→m∣x i - y i):∀i,i < r→m∣pairT a b p q s t x i - pairT a b p q s t y i:=fun i hi=>by
 have two:∀p q:Int,m∣p*x a+q*x b - (p*y a+q*y b):=fun p q=>by
  have:=Int.dvd_add (Int.dvd_mul_of_dvd_right (b:=p) (h a ha)) (Int.dvd_mul_of_dvd_right (b:=q) (h b hb))
  rwa[Int.mul_sub,Int.mul_sub,show ∀a b c d:Int,a - b+(c - d)=a+c - (b+d)from fun a b c d=>by omega]at this
 unfold pairT
 by_cases h1:i=a
 ·
  rw[if_pos h1,if_pos h1];exact two p q
 ·
  rw[if_neg h1,if_neg h1]
  by_cases h2:i=b
  ·
   rw[if_pos h2,if_pos h2];exact two s t
  ·
   rw[if_neg h2,if_neg h2];exact h i hi
theorem ZfX {a b:Nat} (hab:a≠b) {p q s t p' q' s' t' : Int} (e1:p' * p+q' * s=1) (e2:p' * q+q' * t=0) (e3:s' * p+t' * s=0) (e4:s' * q+t' * t=1) (x:Vc):pairT a b p' q' s' t' (pairT a b p q s t x)=x:=by
 have ea:pairT a b p q s t x a=p*x a+q*x b:=if_pos rfl
 have eb:pairT a b p q s t x b=s*x a+t*x b:=by unfold pairT;rw[if_neg (by omega),if_pos rfl]
 have two:∀p' q' : Int,p' * (p*x a+q*x b)+q' * (s*x a+t*x b)=(p' * p+q' * s)*x a+(p' * q+q' * t)*x b:=fun p' q' => by
  rw[Int.mul_add,Int.mul_add,Int.add_mul,Int.add_mul,Int.mul_assoc,Int.mul_assoc,Int.mul_assoc,Int.mul_assoc];omega
 funext i
 rw[pairT,ea,eb,two,two,e1,e2,e3,e4]
 by_cases h1:i=a
 ·
  rw[if_pos h1,h1];omega
 ·
  rw[if_neg h1]
  by_cases h2:i=b
  ·
   rw[if_pos h2,h2];omega
  ·
   rw[if_neg h2,pairT,if_neg h1,if_neg h2]
theorem Zeb {m:Int} {r a b:Nat} (hab:a≠b) (ha:a < r) (hb:b < r) {p q s t p' q' s' t' : Int} (e1:p' * p+q' * s=1) (e2:p' * q+q' * t=0) (e3:s' * p+t' * s=0) (e4:s' * q+t' * t=1)
  (f1:p*p' + q*s' = 1) (f2:p*q' + q*t' = 0) (f3:s*p' + t*s' = 0) (f4:s*q' + t*t' = 1):Aut m r (pairT a b p q s t) (pairT a b p' q' s' t') where
 t1:=fun x y c i _=>Zaw (by rw[ZhB])
 s1:=fun x y c i _=>Zaw (by rw[ZhB])
 t2:=fun x y h=>Zfz ha hb _ _ _ _ h
 s2:=fun x y h=>Zfz ha hb _ _ _ _ h
 st:=fun x i _=>Zaw (by rw[ZfX hab e1 e2 e3 e4])
 ts:=fun x i _=>Zaw (by rw[ZfX hab f1 f2 f3 f4])
theorem Zmw {m:Int} {W:Nat} {rows rows' : List (List Int)} {T S:Vc→Vc} (h:Aut m W T S) (hr:∀r∈rows,∃r' ∈ rows', ∀i,i < W→m∣T (V r) i - V r' i) {x:Vc} (hx:Mx m W rows x):Mx m W rows' (T x):=by
 induction hx with
 | nil =>
  refine .alike .nil fun i hi => ?_
  have:=h.t1 (fun _=>0) (fun _=>0) (-1) i hi
  rw[show(fun i:Nat=>(0:Int) + -1*0)=fun _=>0 from funext fun _=>by omega]at this
  obtain⟨q,hq⟩:=this
  exact⟨-q,by rw[Int.mul_neg];omega⟩
 | @add x0 g0 c _ hg ih =>
  obtain⟨r,hr1,rfl⟩:=hg
  obtain⟨r', h1,h2⟩:=hr r hr1
  refine .alike (.add c ih ⟨r', h1,rfl⟩) fun i hi => ?_
  have k1:=h.t1 x0 (V r) c i hi
  have k2:=Int.dvd_mul_of_dvd_right (b:=c) (h2 i hi)
  have:=Int.dvd_add k1 k2
  rw[Int.mul_sub]at this
  exact Zbo (by rwa[show ∀a b c d:Int,a - (b+c)+(c - d)=a - (b+d)from fun a b c d=>by omega]at this)
 | alike _ h' ih=>exact .alike ih (h.t2 _ _ h')
theorem Aut.symm {m:Int} {r:Nat} {T S:Vc→Vc} (h:Aut m r T S):Aut m r S T:=⟨h.s1,h.t1,h.s2,h.t2,h.ts,h.st⟩
theorem Zj9 {m:Int} (m0:0 < m) {W:Nat} {rows rows' : List (List Int)} {T S:Vc→Vc} (h:Aut m W T S) (hl:rows'.length=rows.length) (hr:∀k:Nat,k < rows.length→∀i,i < W→m∣T (V (row rows (k:Int))) i - V (row rows' (k:Int)) i):Eqd m W (Mx m W rows) (Mx m W rows'):=by
 refine fun d=>h.ct m0 Sp.sub Sp.sub (fun x hx=>Zmw h (fun r hr' => ?_) hx) (fun x hx=>Zmw h.symm (fun r hr' => ?_) hx) d
 ·
  obtain⟨k,k0,k1,rfl⟩:=ZcW hr'
  obtain⟨n,rfl⟩:=Int.eq_ofNat_of_zero_le k0
  exact⟨_,Zey k0 (by omega),hr n (by omega)⟩
 ·
  obtain⟨k,k0,k1,rfl⟩:=ZcW hr'
  obtain⟨n,rfl⟩:=Int.eq_ofNat_of_zero_le k0
  refine⟨_,Zey k0 (by omega),fun i hi => ?_⟩
  exact dvd_trans' (Zbo (h.s2 _ _ (hr n (by omega)) i hi)) (h.st _ i hi)
def gq (m d n:Int):Nat:=(m / ((Int.gcd n d:Nat):Int)).toNat
def Dg (m:Int) (r:Nat) (M:Vc→Prop) (ns:List Int):Prop:=∀d,0 < d→d∣m→ct m r (ad m r d M)=prodN (ns.map fun n=>gq m d n)
theorem Dg.eqd {m:Int} {r:Nat} {M M' : Vc→Prop} {ns:List Int} (h:Dg m r M' ns) (k:Eqd m r M M'):Dg m r M ns:=fun d d0 hd=>(k d).trans (h d d0 hd)
theorem Dg.nil {m:Int} (m0:0 < m) {M:Vc→Prop} (hM:Sub m 0 M):Dg m 0 M []:=fun d _ _=>by
 have:ctl m 0 (fun v=>ad m 0 d M (V v))=[[]]:=by
  have h:(vecs m 0)=[[]]:=rfl
  rw[ctl,h,List.filter_cons,B_pos (show ad m 0 d M (V [])from⟨_,fun _=>0,hM.zero,fun i hi=>absurd hi (Nat.not_lt_zero _)⟩)]
  rfl
 rw[ct,this]
 rfl
theorem Dg.cons {m:Int} (m0:0 < m) {r:Nat} {n:Int} (hn:n∣m) (n0:0 < n) {M M' : Vc→Prop} {ns:List Int} (hM' : Sub m r M') (h:∀x,M x↔n∣x 0∧M' (fun i=>x (i+1))) (k:Dg m r M' ns):Dg m (r+1) M (n :: ns):=fun d d0 hd=>by
 rw[ZlU m0 hn hd n0 d0 hM' h,k d d0 hd]
 rfl
theorem Dg.zero {m:Int} (m0:0 < m):∀r:Nat,Dg m r (fun x=>∀i,i < r→m∣x i) (List.replicate r m)
 | 0 => .nil m0 ⟨fun i hi=>absurd hi (Nat.not_lt_zero _),fun _ _ _ _ _ i hi=>absurd hi (Nat.not_lt_zero _),fun _ _ _ _ i hi=>absurd hi (Nat.not_lt_zero _)⟩
 | r+1=>by
  rw[List.replicate_succ]
  refine .cons m0 (Int.dvd_refl m) m0 (M' := fun x=>∀i,i < r→m∣x i) ⟨fun i _=>Int.dvd_zero _,fun x y h k c i hi=>Int.dvd_add (h i hi) (Int.dvd_mul_of_dvd_right (k i hi)),fun x y h k i hi => ?_⟩ (fun x=>⟨fun h=>⟨h 0 (by omega),fun i hi=>h (i+1) (by omega)⟩,fun h i hi => ?_⟩) (Dg.zero m0 r)
  ·
   have:=Int.dvd_sub (h i hi) (k i hi)
   rwa[show x i - (x i - y i)=y i by omega]at this
  ·
   cases i with
   | zero=>exact h.1
   | succ i=>exact h.2 i (by omega)
theorem ZmS {m:Int} {W:Nat} {rows:List (List Int)} (h:∀r∈rows,∀i,i < W→V r i=0) (x:Vc):Mx m W rows x↔∀i,i < W→m∣x i:=by
 constructor
 ·
  intro hx i hi
  exact Sp.dvd (Int.dvd_refl m) hi (fun g ⟨r,hr,e⟩=>by rw[e,h r hr i hi];exact Int.dvd_zero m) hx
 ·
  intro hx
  exact .alike .nil fun i hi=>Zbo (by rw[Int.sub_zero];exact hx i hi)
theorem ZmR {m:Int} {W:Nat} {f:List Int} {rest:List (List Int)} {n:Int} (hn:n∣m) (h0:V f 0=n) (hf:∀i,0 < i→i < W+1→V f i=0) (hr:∀r∈rest,V r 0=0) (x:Vc) :
  Mx m (W+1) (f :: rest) x↔n∣x 0∧Mx m W (rest.map fun r=>r.drop 1) (fun i=>x (i+1)):=by
 have hd:∀r:List Int,V (r.drop 1)=fun i=>V r (i+1):=fun r=>by
  funext i
  rw[V,V,ZcE,ZcE,List.getD_eq_getElem?_getD,List.getD_eq_getElem?_getD,List.getElem?_drop,Nat.add_comm]
 constructor
 ·
  intro hx
  induction hx with
  | nil=>exact⟨Int.dvd_zero n,.nil⟩
  | add c _ hg ih =>
   obtain⟨r,hr', rfl⟩:=hg
   rcases List.mem_cons.1 hr' with rfl|hr'
   ·
    refine⟨Int.dvd_add ih.1 ⟨c,by rw[h0,Int.mul_comm]⟩,.alike ih.2 fun i hi=>Zaw ?_⟩
    show _=_+c*V r (i+1)
    rw[hf (i+1) (by omega) (by omega)];omega
   ·
    refine⟨Int.dvd_add ih.1 (by rw[hr r hr', Int.mul_zero];exact Int.dvd_zero n),?_⟩
    exact .alike (.add c ih.2 ⟨_,List.mem_map.2 ⟨r,hr', rfl⟩,rfl⟩) fun i _=>Zaw (by rw[hd])
  | alike _ h ih =>
   refine⟨?_,.alike ih.2 fun i hi=>h (i+1) (by omega)⟩
   have:=Int.dvd_sub ih.1 (Int.dvd_trans hn (h 0 (by omega)))
   rwa[show ∀a b:Int,a - (a - b)=b from fun a b=>by omega]at this
 ·
  rintro⟨⟨q,hq⟩,hx⟩
  have key:∀y,Mx m W (rest.map fun r=>r.drop 1) y→Mx m (W+1) (f :: rest) (fun i=>if i=0 then 0 else y (i - 1)):=fun y hy=>by
   induction hy with
   | nil=>exact .alike .nil fun i _=>Zaw (by split <;> rfl)
   | add c _ hg ih =>
    obtain⟨r', hr', rfl⟩:=hg
    obtain⟨r,hr2,rfl⟩:=List.mem_map.1 hr'
    refine .alike (.add c ih ⟨r,List.mem_cons_of_mem _ hr2,rfl⟩) fun i _=>Zaw ?_
    cases i with
    | zero=>show(if 0=0 then(0:Int)else _)+c*V r 0=_;rw[if_pos rfl,if_pos rfl,hr r hr2];omega
    | succ i=>rw[if_neg (by omega),if_neg (by omega),hd,Nat.add_sub_cancel]
   | alike _ h ih =>
    refine .alike ih fun i hi => ?_
    cases i with
    | zero=>exact Zaw (by rw[if_pos rfl,if_pos rfl])
    | succ i=>rw[if_neg (by omega),if_neg (by omega),Nat.add_sub_cancel];exact h i (by omega)
  refine .alike (.add q (key _ hx) ⟨f,List.mem_cons_self,rfl⟩) fun i hi=>Zaw ?_
  cases i with
  | zero=>rw[if_pos rfl,h0,hq,Int.mul_comm];omega
  | succ i=>rw[if_neg (by omega),hf (i+1) (by omega) hi,Nat.add_sub_cancel];omega
theorem ZmJ {m:Int} (m0:0 < m) {W r:Nat} {Z Bs:Vc→Prop} {G:Nat→Vc} (hZ:Sub m W Z) (hB:Sub m W Bs) (hG:∀x,Z x↔∃c,∀i,i < W→m∣cmb G c r i - x i) (hBZ:∀x,Bs x→Z x) {L:Vc→Prop} (hL:∀c,L c↔Bs (cmb G c r)) (d:Int) :
  ct m r (ad m r d L)*ct m W Z=m.toNat ^ r*ct m W (fun x=>∃b z,Bs b∧Z z∧∀i,i < W→m∣b i+d*z i - x i):=by
 have hLs:Sub m r L:=by rw[show L=fun c=>Bs (cmb G c r)from funext fun c=>propext (hL c)];exact Zio hB
 have hX:Sub m W (fun x=>∃b z,Bs b∧Z z∧∀i,i < W→m∣b i+d*z i - x i):=⟨⟨_,_,hB.zero,hZ.zero,fun i _=>Zaw (by simp)⟩,fun x y ⟨b,z,h1,h2,h3⟩ ⟨b', z', k1,k2,k3⟩ c=>⟨_,_,hB.lin _ _ h1 k1 c,hZ.lin _ _ h2 k2 c,fun i hi=>by
  have:=Int.dvd_add (h3 i hi) (Int.dvd_mul_of_dvd_right (b:=c) (k3 i hi))
  rwa[show b i+d*z i - x i+c*(b' i+d*z' i - y i)=b i+c*b' i+d*(z i+c*z' i) - (x i+c*y i)by
   rw[Int.mul_add d,Int.mul_sub,Int.mul_add,Int.mul_left_comm d c];omega]at this⟩,fun x y ⟨b,z,h1,h2,h3⟩ h=>⟨b,z,h1,h2,fun i hi=>dvd_trans' (h3 i hi) (h i hi)⟩⟩
 have mem:∀c:Vc,Z (cmb G c r):=fun c=>(hG _).2 ⟨c,fun i _=>Zaw rfl⟩
 have e1:=fib m0 (r:=r) (G:=G) hX fun x ⟨b,z,h1,h2,h3⟩=>(hG x).1 (hZ.alike _ _ (hZ.lin _ _ (hBZ _ h1) h2 d) h3)
 have e2:=fib m0 (r:=r) (G:=G) hZ fun x hx=>(hG x).1 hx
 have e3:ct m r (fun c=>Z (cmb G c r))=m.toNat ^ r:=by rw[←ZnK];exact ZiQ m0 fun c=>⟨fun _=>trivial,fun _=>mem c⟩
 have e4:ct m r (ad m r d L)=ct m r (fun c=>∃b z,Bs b∧Z z∧∀i,i < W→m∣b i+d*z i - cmb G c r i):=ZiQ m0 fun c=>by
  constructor
  ·
   rintro⟨l,e,h1,h2⟩
   refine⟨_,_,(hL l).1 h1,mem e,fun i _ => ?_⟩
   have:=ZcJ (m:=m) (G:=G) i r h2
   rwa[ZbV]at this
  ·
   rintro⟨b,z,h1,h2,h3⟩
   obtain⟨e,he⟩:=(hG z).1 h2
   refine⟨fun i=>c i+(-d)*e i,e,(hL _).2 (hB.alike _ _ h1 fun i hi => ?_),fun i _=>Zaw (by show c i + -d*e i+d*e i=c i;rw[Int.neg_mul];omega)⟩
   rw[ZbV,Int.neg_mul]
   have k1:=h3 i hi
   have k2:=Int.dvd_mul_of_dvd_right (b:=d) (he i hi)
   have:=Int.dvd_add k1 k2
   rw[Int.mul_sub]at this
   rwa[show ∀a b c e:Int,a+b - c+(e - b)=a - (c + -e)from fun a b c e=>by omega]at this
 rw[e4,e1,←e3,e2]
 simp only[Nat.mul_assoc,Nat.mul_comm,Nat.mul_left_comm]
end Go.Proofs.YtdamfbighdkcbaaGreat.V
