/- What the proof of the law Steps stands on, part 8: words, each Go function's Lean function, and that the Go code comes to its answers; no condition. (Packed by wip/myprint/pack.py out of what the kit's printer wrote, its words among it, partly by our patches of it, and out of texts of this session.) -/
import Derived.Test.YtdamfbighdkcbaaGreatKSteps3
import Derived.Test.YtdamfbighdkcbaaGreatKSteps4
import Derived.Test.YtdamfbighdkcbaaGreatKSteps7
set_option linter.unusedVariables false
set_option linter.unusedSimpArgs false
set_option maxHeartbeats 2000000
set_option maxRecDepth 20000
namespace Go.Proofs.YtdamfbighdkcbaaGreat.V
open Go.RowKit Go.Proofs.YtdamfbighdkcbaaGreat.D Go.Proofs.YtdamfbighdkcbaaGreat.P
theorem Mod_ {a m:Int} (h0 : -1000000000<=a) (h1:a<=1000000000) (m0:0<m) (m1:m<=1000000):ZaT.f a m=some (a%m):=by
 rw[ZaT.f_eq];have t0:=Int.tmod_lt_of_pos a m0;have t1 : -m<Int.tmod a m:=Int.lt_tmod_of_pos a m0;have hq:=Int.mul_tdiv_add_tmod a m;have h5:(m*a.tdiv m+a.tmod m)%m=a.tmod m%m:=by rw[Int.add_comm,Int.add_mul_emod_self_left]
 rw[hq]at h5;rw[w64 (by omega) (by omega),Int.tmod_eq_emod_of_nonneg (show 0<=Int.tmod a m+m by omega),Int.add_emod_right,<-h5]
 ((with_reducible repeat (first|refine go_p ?_|refine go_n ?_|refine go_b ?_|dsimp only));first|done|(with_reducible rfl)|simp (disch:=omega) only[w64])
theorem Zoo:∀n:Nat,n<=7->∀i:Nat,i<=5->n ^ i<=16807:=by decide
theorem Zj7 {a:Int} (h0:0<=a) (h1:a<=7) (i:Nat) (hi:i<=5):0<=a ^ i/\a ^ i<=16807:=by obtain⟨n,rfl⟩:=Int.eq_ofNat_of_zero_le h0;have h:=Zoo n (by omega) i hi;rw[<-Int.natCast_pow];omega
def cells (g:List (List Int)) (d:Int):Int:=((g.length:Int)-1) ^ d.toNat
theorem Zex {g:List (List Int)} (hg:Grp g) {d:Int} (h1:d<=5):0<=cells g d/\cells g d<=16807:=by
 have n8:=hg.n8;have n0:=hg.n1
 exact Zj7 (by omega) (by omega) _ (by omega)
theorem power {a d:Int} (h0:0<=a) (h1:a<=7) (d0:0<=d) (d1:d<=4):Za7.f a d=some (a ^ d.toNat):=by
 obtain⟨n,rfl⟩:=Int.eq_ofNat_of_zero_le d0;have:=up n (λ j=>Za7.l0 a (a ^ j) (n:Int) (j:Int)) (λ j hj=>by
  have hw:wrapI ((j:Int)+1)=((j+1:Nat):Int):=by rw[w64 (by omega) (by omega)];omega
  have b:=Zj7 h0 h1 (j+1) (by omega);have hp:wrapI (a ^ j*a)=a ^ (j+1):=by rw[show a ^ j*a=a ^ (j+1)from(Int.pow_succ a j).symm];exact w64 (by omega) (by omega)
  rw[Za7.l0_eq,hw,hp]
  ((with_reducible repeat (first|refine go_p ?_|refine go_n ?_|refine go_b ?_|dsimp only));first|done|(with_reducible rfl)|simp (disch:=omega) only[w64]))
 simp only[Int.pow_zero,Int.natCast_zero]at this;rw[Za7.f_eq,this,Za7.l0_eq,Int.toNat_natCast]
 ((with_reducible repeat (first|refine go_p ?_|refine go_n ?_|refine go_b ?_|dsimp only));first|done|(with_reducible rfl)|simp (disch:=omega) only[w64])
theorem Zgr {g:List (List Int)} (hg:Grp g) {d:Int} (d0:0<=d) (d1:d<=4):Za6.f g d=some (cells g d):=by
 have n8:=hg.n8;have n0:=hg.n1
 have hw:wrapI ((g.length:Int)-1)=g.length-1:=w64 (by omega) (by omega);have hp:=power (a:=(g.length:Int)-1) (by omega) (by omega) d0 d1;show _=some (((g.length:Int)-1) ^ d.toNat);rw[Za6.f_eq,ZaI.f_eq,Option.bind_some,hw]
 ((with_reducible repeat (first|refine go_p ?_|refine go_n ?_|refine go_b ?_|dsimp only));first|done|(with_reducible rfl)|simp (disch:=omega) only[w64])
theorem ZfI {g:List (List Int)} (hg:Grp g) {d:Int} (d0:0<=d) (d1:d<=4):ZP.f g d=some (cells g d):=by
 have n8:=hg.n8;have n0:=hg.n1
 unfold cells;have hw:wrapI ((g.length:Int)-1)=g.length-1:=w64 (by omega) (by omega);obtain⟨n,rfl⟩:=Int.eq_ofNat_of_zero_le d0
 suffices H:∀n j:Nat,n+j<=4->ZP.l0 (n:Int) (((g.length:Int)-1) ^ j) g=some (((g.length:Int)-1) ^ (j+n))by
  have:=H n 0 (by omega);rw[ZP.f_eq]
  simpa using this
 intro n
 induction n with
 | zero=>intro j hj;rw[ZP.l0_eq,Nat.add_zero];((with_reducible repeat (first|refine go_p ?_|refine go_n ?_|refine go_b ?_|dsimp only));first|done|(with_reducible rfl)|simp (disch:=omega) only[w64])
 | succ n ih =>
  intro j hj;have b:=Zj7 (a:=(g.length:Int)-1) (by omega) (by omega) (j+1) (by omega);have hp:wrapI (((g.length:Int)-1) ^ j*((g.length:Int)-1))=((g.length:Int)-1) ^ (j+1):=by rw[show((g.length:Int)-1) ^ j*((g.length:Int)-1)=((g.length:Int)-1) ^ (j+1)from(Int.pow_succ _ j).symm];exact w64 (by omega) (by omega)
  have h1:wrapI (((n+1:Nat):Int)-1)=(n:Int):=by rw[w64 (by omega) (by omega)];omega
  have:=ih (j+1) (by omega);rw[show j+1+n=j+(n+1)by omega]at this;rw[ZP.l0_eq,Zal.f_eq,Option.bind_some,hw,hp,h1]
  (with_reducible repeat (first|refine go_p ?_|refine go_n ?_|refine go_b ?_|dsimp only))
  exact this
def Co (g:List (List Int)) (m d:Int) (v:List Int):Prop:=(0<=d/\d<=3)/\(v.length:Int)=cells g d/\AllIn m v
theorem ZmY (d:Int):Za8.f d=some (B (0<=d/\d<=3)):=by
 rw[Za8.f_eq]
 by_cases h:d>=0
 ·rw[if_pos h,ZgU,Zcr (show d<=3↔(0<=d/\d<=3)from⟨λ h'=>⟨h,h'⟩,λ h'=>h'.2⟩)]
 ·rw[if_neg h,B_neg (λ h'=>h h'.1)]
def idx (g:List (List Int)) (xs:List Int):Int:=xs.foldl (λ a x=>a*((g.length:Int)-1)+x-1) 0
theorem Zha (g:List (List Int)) (xs:List Int) (x:Int):idx g (xs++[x])=idx g xs*((g.length:Int)-1)+x-1:=by simp[idx]
theorem ZjV {g:List (List Int)} {xs:List Int} {i:Nat} (h:i<xs.length):idx g (xs.take (i+1))=idx g (xs.take i)*((g.length:Int)-1)+rd xs (i:Int)-1:=by rw[Zet h,Zha]
theorem ZlK {g:List (List Int)} (hg:Grp g) {xs:List Int} (hx:AllIn g.length xs):∀i:Nat,i<=xs.length->(∀j:Int,0<=j->j<i->¬ rd xs j=0)->0<=idx g (xs.take i)/\idx g (xs.take i)+1<=((g.length:Int)-1) ^ i:=by
 have n8:=hg.n8;have n1:=hg.n1
 intro i
 induction i with
 | zero=>intro _ _;simp[idx]
 | succ i ih =>
  intro hi hz;obtain⟨a0,a1⟩:=ih (by omega) (λ j h0 h1=>hz j h0 (by omega));obtain⟨x0,x1⟩:=hx i (by omega) (by omega);have x2:=hz i (by omega) (by omega);rw[ZjV (by omega),Int.pow_succ];have b1:0<=idx g (xs.take i)*((g.length:Int)-1):=Int.mul_nonneg a0 (by omega);have b2:(idx g (xs.take i)+1)*((g.length:Int)-1)<=((g.length:Int)-1) ^ i*((g.length:Int)-1):=Int.mul_le_mul_of_nonneg_right a1 (by omega);rw[Int.add_mul,Int.one_mul]at b2;omega
def Zb2 (xs:List Int):Prop:=∀j:Int,0<=j->j<xs.length->¬ rd xs j=0
noncomputable def At (g:List (List Int)) (v xs:List Int):Int:=ite_ (Zb2 xs) (rd v (idx g xs)) 0
theorem ZjU {g:List (List Int)} (hg:Grp g) {xs:List Int} (hx:AllIn g.length xs) (hl:xs.length<=4) {n:Nat} (hn:n<xs.length) (hz:∀j:Int,0<=j->j<(n:Int)->¬ rd xs j=0) :
  wrapI (wrapI (wrapI (idx g (xs.take n)*wrapI ((g.length:Int)-1))+rd xs n)-1)=idx g (xs.take (n+1))/\wrapI ((n:Int)+1)=(n:Int)+1:=by
 have n8:=hg.n8;have n1:=hg.n1
 obtain⟨a0,a1⟩:=ZlK hg hx n (by omega) hz;obtain⟨x0,x1⟩:=hx n (by omega) (by omega);have p:=Zj7 (a:=(g.length:Int)-1) (by omega) (by omega) n (by omega);have b1:0<=idx g (xs.take n)*((g.length:Int)-1):=Int.mul_nonneg a0 (by omega);have b2:idx g (xs.take n)*((g.length:Int)-1)<=16807*7:=Int.mul_le_mul (by omega) (by omega) (by omega) (by omega);rw[w64 (x:=(g.length:Int)-1) (by omega) (by omega),w64 (x:=idx g (xs.take n)*((g.length:Int)-1)) (by omega) (by omega),w64 (x:=idx g (xs.take n)*((g.length:Int)-1)+rd xs n) (by omega) (by omega),w64 (by omega) (by omega),w64 (by omega) (by omega),ZjV hn];exact⟨rfl,rfl⟩
theorem cell_ {g:List (List Int)} (hg:Grp g) {xs:List Int} (hx:AllIn g.length xs) (hl:xs.length<=4) :
  Zbe.f g xs=some (ite_ (Zb2 xs) (idx g xs) (-1)):=by
 rw[Zbe.f_eq];have:=scan xs.length (λ i=>Zbe.l0 (idx g (xs.take i.toNat)) xs (xs.length:Int) i g) (λ j=>¬ rd xs j=0) (some (-1)) (λ i i0 i1 hz=>by
  obtain⟨n,rfl⟩:=Int.eq_ofNat_of_zero_le i0;obtain⟨e1,e2⟩:=ZjU hg hx hl (n:=n) (by omega) hz;refine⟨λ h=>?_,λ h=>?_⟩
  ·
   rw[Zbe.l0_eq,ZaI.f_eq,Option.bind_some,Int.toNat_natCast,e1,e2,show((n:Int)+1).toNat=n+1 by omega]
   ((with_reducible repeat (first|refine go_p ?_|refine go_n ?_|refine go_b ?_|dsimp only));first|done|(with_reducible rfl)|simp (disch:=omega) only[w64])
  ·
   (rw[Zbe.l0_eq])
   ((with_reducible repeat (first|refine go_p ?_|refine go_n ?_|refine go_b ?_|dsimp only));first|done|(with_reducible rfl)|simp (disch:=omega) only[w64]))
 simp only[Int.toNat_zero,List.take_zero,Int.toNat_natCast,List.take_length]at this;rcases this with ⟨h1,h2⟩|⟨j,j0,j1,_,h1,_,h2⟩
 ·
  have h1:Zb2 xs:=h1;rw[Zb4 h1,<-show Zbe.l0 (idx g []) xs (xs.length:Int) 0 g=Zbe.l0 0 xs (xs.length:Int) 0 g from rfl,h2]
  (rw[Zbe.l0_eq])
  ((with_reducible repeat (first|refine go_p ?_|refine go_n ?_|refine go_b ?_|dsimp only));first|done|(with_reducible rfl)|simp (disch:=omega) only[w64])
 ·rw[Zb9 λ q=>h1 (q j j0 j1)];exact h2
theorem ZeB {g:List (List Int)} (hg:Grp g) {m d:Int} {v:List Int} (hc:Co g m d v) {xs:List Int} (hx:AllIn g.length xs) (hl:(xs.length:Int)=d) (h:Zb2 xs):0<=idx g xs/\idx g xs<v.length:=by
 obtain⟨⟨d0,d1⟩,hv,ha⟩:=hc;obtain⟨a0,a1⟩:=ZlK hg hx xs.length (by omega) h;rw[List.take_length]at a0 a1;have e:cells g d=((g.length:Int)-1) ^ xs.length:=by unfold cells;rw[show d.toNat=xs.length by omega]
 omega
theorem at_ {g:List (List Int)} (hg:Grp g) {m d:Int} {v:List Int} (hc:Co g m d v) {xs:List Int} (hx:AllIn g.length xs) (hl:(xs.length:Int)=d) :
  ZaE.f d v g xs=some (At g v xs):=by
 have hd:=hc.1;have h1:=cell_ hg hx (by omega);rw[ZaE.f_eq];unfold At
 by_cases h:Zb2 xs
 ·
  obtain⟨a0,a1⟩:=ZeB hg hc hx hl h;rw[Zb4 h]at h1 ⊢
  ((with_reducible repeat (first|refine go_p ?_|refine go_n ?_|refine go_b ?_|dsimp only));first|done|(with_reducible rfl)|simp (disch:=omega) only[w64])
 ·
  rw[Zb9 h]at h1 ⊢
  ((with_reducible repeat (first|refine go_p ?_|refine go_n ?_|refine go_b ?_|dsimp only));first|done|(with_reducible rfl)|simp (disch:=omega) only[w64])
theorem At_ {g:List (List Int)} (hg:Grp g) {m d:Int} {u v:List Int} (hc:Co g m d v) {xs:List Int} (hx:AllIn g.length xs) (hl:(xs.length:Int)=d) :
  ZaU.f g d v xs=some (At g v xs):=by
 have hd:=hc.1;rw[ZaU.f_eq];have:=scan xs.length (λ i=>ZaU.l0 xs (idx g (xs.take i.toNat)) i g d v) (λ j=>¬ rd xs j=0) (some 0) (λ i i0 i1 hz=>by
  obtain⟨n,rfl⟩:=Int.eq_ofNat_of_zero_le i0;obtain⟨e1,e2⟩:=ZjU hg hx (by omega) (n:=n) (by omega) hz;refine⟨λ h=>?_,λ h=>?_⟩
  ·
   rw[ZaU.l0_eq,Zal.f_eq,Option.bind_some,Int.toNat_natCast,e1,e2,show((n:Int)+1).toNat=n+1 by omega]
   ((with_reducible repeat (first|refine go_p ?_|refine go_n ?_|refine go_b ?_|dsimp only));first|done|(with_reducible rfl)|simp (disch:=omega) only[w64])
  ·
   (rw[ZaU.l0_eq])
   ((with_reducible repeat (first|refine go_p ?_|refine go_n ?_|refine go_b ?_|dsimp only));first|done|(with_reducible rfl)|simp (disch:=omega) only[w64]))
 simp only[Int.toNat_zero,List.take_zero,Int.toNat_natCast,List.take_length]at this;unfold At;rcases this with ⟨h1,h2⟩|⟨j,j0,j1,_,h1,_,h2⟩
 ·
  have h1:Zb2 xs:=h1;obtain⟨a0,a1⟩:=ZeB hg hc hx hl h1;rw[Zb4 h1,<-show ZaU.l0 xs (idx g []) 0 g d v=ZaU.l0 xs 0 0 g d v from rfl,h2]
  (rw[ZaU.l0_eq])
  ((with_reducible repeat (first|refine go_p ?_|refine go_n ?_|refine go_b ?_|dsimp only));first|done|(with_reducible rfl)|simp (disch:=omega) only[w64])
 ·rw[Zb9 λ q=>h1 (q j j0 j1)];exact h2
theorem At_bd {g:List (List Int)} (hg:Grp g) {m d:Int} {v:List Int} (m0:0<m) (hc:Co g m d v) {xs:List Int} (hx:AllIn g.length xs) (hl:(xs.length:Int)=d):0<=At g v xs/\At g v xs<m:=by
 unfold At
 by_cases h:Zb2 xs
 ·obtain⟨a0,a1⟩:=ZeB hg hc hx hl h;rw[Zb4 h];exact hc.2.2 _ a0 a1
 ·rw[Zb9 h];omega
def lst (b:Int):Nat->Int->List Int
 | 0,_=>[]
 | n+1,i=>lst b n (i / b)++[i%b+1]
theorem ZcO (b:Int):∀n i,(lst b n i).length=n:=by
 intro n
 induction n with
 | zero=>intro i;rfl
 | succ n ih=>intro i;simp[lst,ih]
theorem Zo5 {b:Int} (hb:0<b):∀n i,∀x∈lst b n i,1<=x/\x<b+1:=by
 intro n
 induction n with
 | zero=>intro i x hx;simp[lst]at hx
 | succ n ih =>
  intro i x hx;have m0:=Int.emod_nonneg i (show b≠0 by omega);have m1:=Int.emod_lt_of_pos i hb;rcases List.mem_append.1 hx with h|h
  ·exact ih _ x h
  ·rw[List.mem_singleton]at h;omega
theorem Zke (n:Nat) (t:List Int) (x:Int):(List.replicate (n+1) 0++t).set n x=List.replicate n 0++(x :: t):=by rw[List.replicate_succ', List.append_assoc,List.set_append,if_neg (by simp)];simp
theorem Zo4 {g:List (List Int)} (hg:Grp g) (n:Nat) (h2:n=0\/2<=g.length) (hn:n<=4) {i:Int} (i0:0<=i) (i1:i<=16807) :
  ZaW.f g (n:Int) i=some (lst ((g.length:Int)-1) n i)/\ZaL.f g (n:Int) i=some (lst ((g.length:Int)-1) n i):=by
 have n8:=hg.n8;have n1:=hg.n1
 obtain⟨b,hb⟩:∃b:Int,b=(g.length:Int)-1:=⟨_,rfl⟩
 have hw0:wrapI ((g.length:Int)-1)=b:=by rw[hb];exact w64 (by omega) (by omega)
 rw[<-hb];have b1:n=0\/1<=b:=by omega
 have b7:b<=7:=by omega
 have fact:∀(n:Nat) (i:Int),n<=4->1<=b->0<=i->i<=16807->wrapI (Int.tdiv i b)=i / b/\wrapI (1+Int.tmod i b)=i%b+1/\wrapI (Int.tmod i b+1)=i%b+1/\wrapI ((n:Int)-1)=(n:Int)-1/\0<=i / b/\i / b<=16807:=by intro n i hn b1 i0 i1;have m0:=Int.emod_nonneg i (show b≠0 by omega);have m1:=Int.emod_lt_of_pos i (show 0<b by omega);have d0:0<=i / b:=Int.ediv_nonneg i0 (by omega);have d1:i / b<=i:=Int.ediv_le_self _ i0;rw[Zdy i0,Zcc i0];exact⟨w64 (by omega) (by omega),by rw[w64 (by omega) (by omega)];omega,w64 (by omega) (by omega),w64 (by omega) (by omega),d0,by omega⟩
 have hwn:wrapI ((n:Int)-1)=(n:Int)-1:=w64 (by omega) (by omega)
 constructor
 ·
  rw[ZaW.f_eq,ZaI.f_eq,Option.bind_some,hw0,hwn,Int.toNat_natCast]
  (with_reducible repeat (first|refine go_p ?_|refine go_n ?_|refine go_b ?_|dsimp only))
  suffices H:∀(n:Nat) (i:Int) (t:List Int),n<=4->(n=0\/1<=b)->0<=i->i<=16807->ZaW.l0 i b ((n:Int)-1) (List.replicate n 0++t)=some (lst b n i++t)by simpa using H n i [] hn b1 i0 i1
  intro n
  induction n with
  | zero=>intro i t _ _ _ _;rw[ZaW.l0_eq];(with_reducible repeat (first|refine go_p ?_|refine go_n ?_|refine go_b ?_|dsimp only));rfl
  | succ n ih =>
   intro i t hn b1 i0 i1;obtain⟨f1,f2,f3,f5,f6,f7⟩:=fact n i (by omega) (by omega) i0 i1;have h:=ih (i / b) ((i%b+1) :: t) (by omega) (by omega) f6 f7;have e:((n+1:Nat):Int)-1=(n:Int):=by omega
   have l1:(List.replicate (n+1) (0:Int)++t).length=n+1+t.length:=by rw[List.length_append,List.length_replicate]
   rw[e,ZaW.l0_eq,f1,f2,f5,Int.toNat_natCast,Zke]
   (with_reducible repeat (first|refine go_p ?_|refine go_n ?_|refine go_b ?_|dsimp only))
   rw[h,lst,List.append_assoc,List.singleton_append]
 ·
  rw[ZaL.f_eq,Zal.f_eq,Option.bind_some,hw0,hwn,Int.toNat_natCast]
  (with_reducible repeat (first|refine go_p ?_|refine go_n ?_|refine go_b ?_|dsimp only))
  suffices H:∀(n:Nat) (i:Int) (t:List Int),n<=4->(n=0\/1<=b)->0<=i->i<=16807->ZaL.l0 i b ((n:Int)-1) (List.replicate n 0++t)=some (lst b n i++t)by simpa using H n i [] hn b1 i0 i1
  intro n
  induction n with
  | zero=>intro i t _ _ _ _;rw[ZaL.l0_eq];(with_reducible repeat (first|refine go_p ?_|refine go_n ?_|refine go_b ?_|dsimp only));rfl
  | succ n ih =>
   intro i t hn b1 i0 i1;obtain⟨f1,f2,f3,f5,f6,f7⟩:=fact n i (by omega) (by omega) i0 i1;have h:=ih (i / b) ((i%b+1) :: t) (by omega) (by omega) f6 f7;have e:((n+1:Nat):Int)-1=(n:Int):=by omega
   have l1:(List.replicate (n+1) (0:Int)++t).length=n+1+t.length:=by rw[List.length_append,List.length_replicate]
   rw[e,ZaL.l0_eq,f1,f3,f5,Int.toNat_natCast,Zke]
   (with_reducible repeat (first|refine go_p ?_|refine go_n ?_|refine go_b ?_|dsimp only))
   rw[h,lst,List.append_assoc,List.singleton_append]
theorem cells_two {g:List (List Int)} (hg:Grp g) {n:Nat} (hc:0<cells g n):n=0\/2<=g.length:=by
 have n1:=hg.n1
 by_cases h:n=0
 ·exact .inl h
 by_cases h2:2<=g.length
 ·exact .inr h2
 ·
  have:(g.length:Int)-1=0:=by omega
  have e:cells g (n:Int)=0:=by unfold cells;rw[this,Int.toNat_natCast];exact Int.zero_pow h
  omega
theorem ZhN {g:List (List Int)} (hg:Grp g) {n i:Nat} (hn:n<=4) (hi:(i:Int)<cells g n):ZaW.f g (n:Int) i=some (lst ((g.length:Int)-1) n i)/\ZaL.f g (n:Int) i=some (lst ((g.length:Int)-1) n i):=by have hb:=Zex hg (d:=(n:Int)) (by omega);exact Zo4 hg n (cells_two hg (by omega)) hn (by omega) (by omega)
theorem Zf4 {g:List (List Int)} (hg:Grp g) {n i:Nat} (hi:(i:Int)<cells g n):AllIn g.length (lst ((g.length:Int)-1) n i)/\Zb2 (lst ((g.length:Int)-1) n i):=by
 have n1:=hg.n1;have H:∀x∈lst ((g.length:Int)-1) n i,1<=x/\x<g.length:=by
  rcases cells_two hg (show 0<cells g n by omega)with h|g2
  ·subst h;intro x hx;simp[lst]at hx
  ·intro x hx;have:=Zo5 (b:=(g.length:Int)-1) (by omega) n i x hx;omega
 exact⟨ZbO λ x hx=>by have:=H x hx;omega,λ j j0 j1 h=>by have:=H _ (ZbU j0 j1);omega⟩
theorem Zkq (G:Nat->Int) (n i:Nat) (h:i<n):((List.range i).map G++List.replicate (n-i) 0).set i (G i)=(List.range (i+1)).map G++List.replicate (n-(i+1)) 0:=by rw[List.set_append,if_neg (by simp),List.length_map,List.length_range,Nat.sub_self,show n-i=(n-(i+1))+1 by omega,List.replicate_succ,List.set_cons_zero,List.range_succ,List.map_append];simp
theorem Zlc (G:Nat->Int) (n i:Nat) (h:i<=n):((List.range i).map G++List.replicate (n-i) 0).length=n:=by rw[List.length_append,List.length_map,List.length_range,List.length_replicate];omega
theorem Zoj {a m:Int} (m0:0<m) (m1:m<=1000000):Int.tmod (wrapI (Int.tmod a m+m)) m=a%m:=by
 have t0:=Int.tmod_lt_of_pos a m0;have t1 : -m<Int.tmod a m:=Int.lt_tmod_of_pos a m0;have hq:=Int.mul_tdiv_add_tmod a m;have h5:(m*a.tdiv m+a.tmod m)%m=a.tmod m%m:=by rw[Int.add_comm,Int.add_mul_emod_self_left]
 rw[hq]at h5;rw[w64 (by omega) (by omega),Int.tmod_eq_emod_of_nonneg (show 0<=Int.tmod a m+m by omega),Int.add_emod_right,<-h5]
theorem zero_ {g:List (List Int)} (hg:Grp g) {n:Nat} (hn:n<=4):Zbr.f g (n:Int)=some ((n:Int),List.replicate (cells g n).toNat 0):=by
 have hb:=Zex hg (d:=(n:Int)) (by omega);have hc:=Zgr hg (d:=(n:Int)) (by omega) (by omega);rw[Zbr.f_eq]
 ((with_reducible repeat (first|refine go_p ?_|refine go_n ?_|refine go_b ?_|dsimp only));first|done|(with_reducible rfl)|simp (disch:=omega) only[w64])
theorem told {g:List (List Int)} (hg:Grp g) {m:Int} (m2:2<=m) (m12:m<=12) {n:Nat} (hn:n<=4) {F:List Int->Option Int} {G:Nat->Int} (hF:∀i:Nat,(i:Int)<cells g n->F (lst ((g.length:Int)-1) n i)=some (G i)) :
  Zbk.f g m (n:Int) F=some ((n:Int),(List.range (cells g n).toNat).map λ i=>G i%m):=by
 have hb:=Zex hg (d:=(n:Int)) (by omega);have hz:=zero_ hg hn;obtain⟨N,hN⟩:∃N,N=(cells g n).toNat:=⟨_,rfl⟩
 rw[Zbk.f_eq,hz,Option.bind_some,<-hN];have:=up N (λ j=>Zbk.l0 m (n:Int) F (N:Int) (j:Int) g 0 (n:Int) ((List.range j).map (λ i=>G i%m)++List.replicate (N-j) 0)) (λ j h=>by
  have hw:wrapI ((j:Int)+1)=((j+1:Nat):Int):=by rw[w64 (by omega) (by omega)];omega
  have f:=hF j (by omega);have hl:=(ZhN hg hn (i:=j) (by omega)).1;have l1:=Zlc (λ i=>G i%m) N j (by omega);have e:=Zoj (a:=G j) (m:=m) (by omega) (by omega);rw[<-Zkq (λ i=>G i%m) N j h,Zbk.l0_eq,hw,hl,Option.bind_some,f,Option.bind_some,e,Int.toNat_natCast]
  ((with_reducible repeat (first|refine go_p ?_|refine go_n ?_|refine go_b ?_|dsimp only));first|done|(with_reducible rfl)|simp (disch:=omega) only[w64]))
 simp only[Int.natCast_zero,List.range_zero,List.map_nil,List.nil_append,Nat.sub_zero,Nat.sub_self,List.replicate_zero,List.append_nil]at this;simp only[List.length_replicate];rw[this,Zbk.l0_eq]
 ((with_reducible repeat (first|refine go_p ?_|refine go_n ?_|refine go_b ?_|dsimp only));first|done|(with_reducible rfl)|simp (disch:=omega) only[w64])
def join2 (g:List (List Int)) (xs:List Int) (j:Nat):List Int:=(xs.take j++[T g (rd xs j) (rd xs (j+1:Nat))])++xs.drop (j+2)
noncomputable def bsum (g:List (List Int)) (u v xs:List Int):Nat->Int×Int
 | 0=>(rd u (rd xs 0)*At g v (xs.drop 1),-1)
 | j+1=>((bsum g u v xs j).1+(bsum g u v xs j).2*At g v (join2 g xs j),0-(bsum g u v xs j).2)
noncomputable def Bd (g:List (List Int)) (u v xs:List Int) (d:Nat):Int:=(bsum g u v xs d).1+(bsum g u v xs d).2*At g v (xs.take d)
theorem Zfw {g:List (List Int)} (hg:Grp g) {xs:List Int} (hx:AllIn g.length xs) {j:Nat} (hj:j+1<xs.length):AllIn g.length (join2 g xs j)/\(join2 g xs j).length+1=xs.length:=by obtain⟨a0,a1⟩:=hx j (by omega) (by omega);obtain⟨b0,b1⟩:=hx (j+1:Nat) (by omega) (by omega);obtain⟨t0,t1⟩:=hg.ent _ _ a0 a1 b0 b1;refine⟨AllIn.append (AllIn.append (hx.take j) (ZdJ t0 t1)) (hx.drop _),?_⟩;simp only[join2,List.length_append,List.length_take,List.length_drop,List.length_singleton];omega
theorem ZnU {g:List (List Int)} (hg:Grp g) {m:Int} {u v xs:List Int} {d:Nat} (hm:Mdl g m u) (hc:Co g m d v) (hx:AllIn g.length xs) (hl:xs.length=d+1) :
  ∀j,j<=d->(-1000000-12*(j:Int)<=(bsum g u v xs j).1/\(bsum g u v xs j).1<=1000000+12*(j:Int))/\((bsum g u v xs j).2=1\/(bsum g u v xs j).2 = -1):=by
 have m2:=hm.m2;have m12:=hm.m12
 obtain⟨x0,x1⟩:=hx 0 (by omega) (by omega);intro j
 induction j with
 | zero =>
  intro _;have ha:=At_bd hg (by omega) hc (hx.drop 1) (by rw[List.length_drop,hl];simp);obtain⟨c0,c1⟩:=ZgQ hm x0 x1 ha.1 ha.2;rw[show bsum g u v xs 0=(rd u (rd xs 0)*At g v (xs.drop 1),-1)from rfl];exact⟨⟨by dsimp only;omega,by dsimp only;omega⟩,.inr rfl⟩
 | succ j ih =>
  intro hj;obtain⟨⟨h1,h2⟩,h3⟩:=ih (by omega);obtain⟨k1,k2⟩:=Zfw hg hx (j:=j) (by omega);have ha:=At_bd hg (by omega) hc k1 (by omega);simp only[bsum];rcases h3 with h3|h3<;>rw[h3]<;>refine⟨⟨by omega,by omega⟩,?_⟩
  ·exact .inr rfl
  ·exact .inl rfl
theorem Zjz {g:List (List Int)} (hg:Grp g) {m:Int} {u v xs ys:List Int} {d:Nat} (hm:Mdl g m u) (hc:Co g m d v) (hx:AllIn g.length xs) (hl:xs.length=d+1) {j:Nat} (hj:j<=d) (hy:AllIn g.length ys) (hyl:ys.length=d) :
  wrapI ((bsum g u v xs j).1+wrapI ((bsum g u v xs j).2*At g v ys))=(bsum g u v xs j).1+(bsum g u v xs j).2*At g v ys/\wrapI (0-(bsum g u v xs j).2)=0-(bsum g u v xs j).2 /\ -2000000<=(bsum g u v xs j).1+(bsum g u v xs j).2*At g v ys/\(bsum g u v xs j).1+(bsum g u v xs j).2*At g v ys<=2000000:=by
 have m2:=hm.m2;have m12:=hm.m12;have d3:=hc.1.2
 obtain⟨⟨s1,s2⟩,s3⟩:=ZnU hg hm hc hx hl j hj;have hb:=At_bd hg (by omega) hc hy (by omega);have p1 : -100<=(bsum g u v xs j).2*At g v ys/\(bsum g u v xs j).2*At g v ys<=100:=by rcases s3 with s3|s3<;>rw[s3]<;>omega
 rw[w64 (x:=(bsum g u v xs j).2*At g v ys) (by omega) (by omega)];exact⟨w64 (by omega) (by omega),w64 (by omega) (by omega),by omega,by omega⟩
theorem Znv {g:List (List Int)} (hg:Grp g) {m:Int} {u v xs:List Int} {d:Nat} (hm:Mdl g m u) (hc:Co g m d v) (hx:AllIn g.length xs) (hl:xs.length=d+1) :
  wrapI (rd u (rd xs 0)*At g v (xs.drop 1))=rd u (rd xs 0)*At g v (xs.drop 1):=by
 have m2:=hm.m2;have m12:=hm.m12
 obtain⟨x0,x1⟩:=hx 0 (by omega) (by omega);have ha:=At_bd hg (by omega) hc (hx.drop 1) (by rw[List.length_drop,hl];simp);obtain⟨c0,c1⟩:=ZgQ hm x0 x1 ha.1 ha.2;exact w64 (by omega) (by omega)
theorem Own_ (xs:List Int) (hl:xs.length<=1048576):Zad.f xs=some xs:=by
 rw[Zad.f_eq,List.nil_append,show([]:List Int).length=0 from rfl]
 ((with_reducible repeat (first|refine go_p ?_|refine go_n ?_|refine go_b ?_|dsimp only));first|done|(with_reducible rfl)|simp (disch:=omega) only[w64])
theorem w2n {j:Nat} (h:j<4611686018427387904):wrapI ((j:Int)+2)=((j+2:Nat):Int):=by rw[w64 (by omega) (by omega)];omega
theorem Zkp {g:List (List Int)} (hg:Grp g) {m:Int} {u v xs:List Int} {d:Nat} (hm:Mdl g m u) (hc:Co g m d v) (hx:AllIn g.length xs) (hl:xs.length=d+1) :
  Zab.f g m u d v xs=some (Bd g u v xs d):=by
 have hlu:=hm.len;have n8:=hg.n8;have d3:=hc.1.2
 obtain⟨x0,x1⟩:=hx 0 (by omega) (by omega);have h0:=at_ hg hc (hx.drop 1) (by rw[List.length_drop,hl];simp);have hat:=at_ hg hc (hx.take d) (by rw[List.length_take,hl];omega);have loop:=up d (λ i=>Zab.l0 xs (d:Int) (bsum g u v xs i).1 (bsum g u v xs i).2 (d:Int) (i:Int) g d v) (λ j hj=>by
  obtain⟨a0,a1⟩:=hx j (by omega) (by omega);obtain⟨b0,b1⟩:=hx (j+1:Nat) (by omega) (by omega);obtain⟨k1,k2⟩:=Zfw hg hx (j:=j) (by omega);have hv:ZaE.f d v g (xs.take j++[T g (rd xs j) (rd xs (j+1:Nat))]++xs.drop (j+2))=some (At g v (join2 g xs j)):=show ZaE.f d v g (join2 g xs j)=_ from at_ hg hc k1 (by omega)
  have ht:=times2 hg a0 a1 b0 b1;obtain⟨w3,w4,_,_⟩:=Zjz hg hm hc hx hl (j:=j) (by omega) k1 (by omega);have z1:(xs.take j).length=j:=by rw[List.length_take];omega
  have z0:([]:List Int).length=0:=rfl;have z2:∀y:Int,([y]:List Int).length=1:=λ _=>rfl
  have z3:(xs.drop (j+2)).length=xs.length-(j+2):=List.length_drop;rw[Zab.l0_eq,wn (j:=j) (by omega),w2n (j:=j) (by omega),Int.toNat_natCast,Int.toNat_natCast,z0,List.nil_append,z1,ht,Option.bind_some,z2];rw[List.length_append,z1,z2,z3,hv,Option.bind_some,w3,w4]
  (with_reducible repeat (first|refine go_p ?_|refine go_n ?_|refine go_b ?_|dsimp only))
  rfl)
 have wl:wrapI ((xs.length:Int)-1)=(d:Int):=by rw[w64 (by omega) (by omega)];omega
 obtain⟨w3,_,_,_⟩:=Zjz hg hm hc hx hl (j:=d) (by omega) (hx.take d) (by rw[List.length_take];omega)
 have e1:xs.drop (1:Int).toNat=xs.drop 1:=rfl;rw[Zab.f_eq,e1,h0,Option.bind_some,wl,Znv hg hm hc hx hl]
 (with_reducible repeat (first|refine go_p ?_|refine go_n ?_|refine go_b ?_|dsimp only))
 refine loop.trans ?_;rw[Zab.l0_eq,Int.toNat_natCast,hat,Option.bind_some,w3]
 (with_reducible repeat (first|refine go_p ?_|refine go_n ?_|refine go_b ?_|dsimp only))
 rfl
theorem Side_ {g:List (List Int)} (hg:Grp g) {m:Int} {u v xs:List Int} {d:Nat} (hm:Mdl g m u) (hc:Co g m d v) (hx:AllIn g.length xs) (hl:xs.length=d+1) :
  ZaM.f g m u d v xs=some (Bd g u v xs d%m):=by
 have hlu:=hm.len;have n8:=hg.n8;have d3:=hc.1.2;have m2:=hm.m2;have m12:=hm.m12
 obtain⟨x0,x1⟩:=hx 0 (by omega) (by omega);have h0:=At_ (u:=u) hg hc (hx.drop 1) (by rw[List.length_drop,hl];simp);have hat:=At_ (u:=u) hg hc (hx.take d) (by rw[List.length_take,hl];omega);have loop:=up d (λ i=>ZaM.l0 xs (d:Int) (bsum g u v xs i).1 (bsum g u v xs i).2 (i:Int) g m u d v) (λ j hj=>by
  obtain⟨a0,a1⟩:=hx j (by omega) (by omega);obtain⟨b0,b1⟩:=hx (j+1:Nat) (by omega) (by omega);obtain⟨k1,k2⟩:=Zfw hg hx (j:=j) (by omega);have hv:ZaU.f g d v (xs.take j++[T g (rd xs j) (rd xs (j+1:Nat))]++xs.drop (j+2))=some (At g v (join2 g xs j)):=show ZaU.f g d v (join2 g xs j)=_ from At_ (u:=u) hg hc k1 (by omega)
  have ra:=hg.row _ a0 a1;obtain⟨w3,w4,_,_⟩:=Zjz hg hm hc hx hl (j:=j) (by omega) k1 (by omega);have z1:(xs.take j).length=j:=by rw[List.length_take];omega
  have z2:∀y:Int,([y]:List Int).length=1:=λ _=>rfl
  have z3:(xs.drop (j+2)).length=xs.length-(j+2):=List.length_drop;have ho:=Own_ (xs.take j) (by omega);rw[ZaM.l0_eq,wn (j:=j) (by omega),w2n (j:=j) (by omega),Int.toNat_natCast,Int.toNat_natCast,ho,Option.bind_some,z2];rw[List.length_append,z1,z2,z3,hv,Option.bind_some,w3,w4]
  (with_reducible repeat (first|refine go_p ?_|refine go_n ?_|refine go_b ?_|dsimp only))
  rfl)
 have wl:wrapI ((xs.length:Int)-1)=(d:Int):=by rw[w64 (by omega) (by omega)];omega
 obtain⟨w3,_,b1,b2⟩:=Zjz hg hm hc hx hl (j:=d) (by omega) (hx.take d) (by rw[List.length_take];omega)
 have e1:xs.drop (1:Int).toNat=xs.drop 1:=rfl;have hmod:=Mod_ (a:=(bsum g u v xs d).1+(bsum g u v xs d).2*At g v (xs.take d)) (m:=m) (by omega) (by omega) (by omega) (by omega);rw[ZaM.f_eq,e1,h0,Option.bind_some,wl,Znv hg hm hc hx hl]
 (with_reducible repeat (first|refine go_p ?_|refine go_n ?_|refine go_b ?_|dsimp only))
 refine loop.trans ?_;rw[ZaM.l0_eq,Int.toNat_natCast,hat,Option.bind_some,w3,hmod]
 (with_reducible repeat (first|refine go_p ?_|refine go_n ?_|refine go_b ?_|dsimp only))
 rfl
noncomputable def bdV (g:List (List Int)) (u v:List Int) (d i:Nat):Int:=Bd g u v (lst ((g.length:Int)-1) (d+1) (i:Int)) d
noncomputable def bdL (g:List (List Int)) (m:Int) (u v:List Int) (d:Nat):List Int:=(List.range (cells g ((d+1:Nat):Int)).toNat).map λ i=>bdV g u v d i%m
theorem ZhM {g:List (List Int)} (hg:Grp g) {m:Int} {u v:List Int} {d:Nat} (hm:Mdl g m u) (hc:Co g m d v):ZaV.f g m u d v=some (((d+1:Nat):Int),bdL g m u v d):=by
 have d3:=hc.1.2;have hT:=told hg hm.m2 hm.m12 (n:=d+1) (by omega) (F:=λ z0=>(ZaN.f z0 g m u d v).map λ z=>z) (G:=bdV g u v d) (λ i hi=>by
  obtain⟨hx,_⟩:=Zf4 hg (n:=d+1) (i:=i) hi;have hll:=ZcO ((g.length:Int)-1) (d+1) i;have e:ZaN.f (lst ((g.length:Int)-1) (d+1) i) g m u d v=some (bdV g u v d i):=by rw[ZaN.f_eq,Zkp hg hm hc hx hll];rfl
  show Option.map _ (ZaN.f _ g m u d v)=_;rw[e];rfl)
 rw[ZaV.f_eq,wn (j:=d) (by omega),hT]
 rfl
open Go.RowKit Go.Proofs.YtdamfbighdkcbaaGreat.D
abbrev Vc:=Nat->Int
inductive Sp (m:Int) (W:Nat) (G:Vc->Prop):Vc->Prop
 | nil:Sp m W G (λ _=>0)
 | add {x g:Vc} (c:Int):Sp m W G x->G g->Sp m W G (λ i=>x i+c*g i)
 | alike {x y:Vc}:Sp m W G x->(∀i,i<W->m∣x i-y i)->Sp m W G y
section
variable {m:Int} {W:Nat} {G G' : Vc->Prop} {x y:Vc}
theorem ZaG {m a b:Int} (h:a=b):m∣a-b:=⟨0,by omega⟩
theorem Sp.plus (hx:Sp m W G x) (hy:Sp m W G y):Sp m W G (λ i=>x i+y i):=by
 induction hy with
 | nil=>exact .alike hx λ i _=>ZaG (by dsimp only;omega)
 | add c _ hg ih=>exact .alike (.add c ih hg) λ i _=>ZaG (by dsimp only;omega)
 | alike _ h ih =>
  refine .alike ih λ i hi=>?_
  have:=h i hi;rwa[show ∀a b c:Int,a+b-(a+c)=b-c from λ a b c=>by omega]
theorem Sp.mul (c:Int) (hx:Sp m W G x):Sp m W G (λ i=>c*x i):=by
 induction hx with
 | nil=>exact .alike .nil λ i _=>ZaG (by simp)
 | add d _ hg ih=>exact .alike (.add (c*d) ih hg) λ i _=>ZaG (by rw[Int.mul_add,Int.mul_assoc])
 | alike _ h ih =>
  refine .alike ih λ i hi=>?_
  rw[<-Int.mul_sub];exact Int.dvd_mul_of_dvd_right (h i hi)
theorem Sp.gen {g:Vc} (h:G g):Sp m W G g:=.alike (.add 1 .nil h) λ i _=>ZaG (by omega)
theorem Sp.mono (h:∀g,G g->Sp m W G' g) (hx:Sp m W G x):Sp m W G' x:=by
 induction hx with
 | nil=>exact .nil
 | add c _ hg ih=>exact ih.plus ((h _ hg).mul c)
 | alike _ h' ih=>exact .alike ih h'
theorem Sp.two {a b:Int} (hx:Sp m W G x) (hy:Sp m W G y) {z:Vc} (h:∀i,i<W->m∣a*x i+b*y i-z i):Sp m W G z:=.alike ((hx.mul a).plus (hy.mul b)) h
theorem Sp.dvd {d:Int} (hd:d∣m) {i:Nat} (hi:i<W) (h:∀g,G g->d∣g i) (hx:Sp m W G x):d∣x i:=by
 induction hx with
 | nil=>exact Int.dvd_zero d
 | add c _ hg ih=>exact Int.dvd_add ih (Int.dvd_mul_of_dvd_right (h _ hg))
 | alike _ h' ih =>
  have:=Int.dvd_sub ih (Int.dvd_trans hd (h' i hi));rwa[show ∀a b:Int,a-(a-b)=b from λ a b=>by omega]at this
structure Sub (m:Int) (W:Nat) (M:Vc->Prop):Prop where
 zero:M λ _=>0
 lin:∀x y,M x->M y->∀c,M λ i=>x i+c*y i
 alike:∀x y,M x->(∀i,i<W->m∣x i-y i)->M y
theorem Sp.sub:Sub m W (Sp m W G):=⟨.nil,λ _ _ hx hy c=>hx.plus (hy.mul c),λ _ _ hx h=>.alike hx h⟩
theorem Sub.all {M:Vc->Prop} (hM:Sub m W M) (h:∀g,G g->M g) (hx:Sp m W G x):M x:=by
 induction hx with
 | nil=>exact hM.zero
 | add c _ hg ih=>exact hM.lin _ _ ih (h _ hg) c
 | alike _ h' ih=>exact hM.alike _ _ ih h'
end
def V (x:List Int):Vc:=λ i=>rd x (i:Int)
structure PRow (m:Int) (W j:Nat) (r:List Int):Prop where
 len:r.length=W
 ent:AllIn m r
 zero:∀i:Nat,i<j->rd r (i:Int)=0
 pos:0<rd r (j:Int)
 lt:rd r (j:Int)<m
 dvd:rd r (j:Int)∣m
structure PTab (m:Int) (W:Nat) (p:List (List Int)):Prop where
 len:p.length=W
 rws:∀j:Nat,j<W->row p (j:Int)=[]\/PRow m W j (row p (j:Int))
def Rws (W:Nat) (p:List (List Int)) (k:Nat):Vc->Prop:=λ g=>∃j:Nat,k<=j/\j<W/\row p (j:Int)≠[]/\g=V (row p (j:Int))
def GT (W:Nat) (p st:List (List Int)) (k:Nat):Vc->Prop:=λ g=>Rws W p k g\/∃s∈st,(∀i:Nat,i<k->rd s (i:Int)=0)/\g=V s
def How (m:Int) (W:Nat) (p:List (List Int)) (G:Nat->Vc->Prop):Prop:=∀j:Nat,j<W->row p (j:Int)≠[]->Sp m W (G (j+1)) (λ i=>m / rd (row p (j:Int)) (j:Int)*rd (row p (j:Int)) (i:Int))
structure Inv (m:Int) (W:Nat) (p st:List (List Int)):Prop where
 tab:PTab m W p
 sts:∀s∈st,s.length=W/\AllIn m s
 how:How m W p (GT W p st)
def dv (m:Int) (p:List (List Int)) (j:Nat):Int:=if row p (j:Int)=[]then m else rd (row p (j:Int)) (j:Int)
structure Lead (m:Int) (W:Nat) (p:List (List Int)) (M:Vc->Prop):Prop where
 tab:PTab m W p
 sub:Sub m W M
 own:∀j:Nat,j<W->row p (j:Int)≠[]->M (V (row p (j:Int)))
 lead:∀x,M x->∀j:Nat,j<W->(∀i:Nat,i<j->m∣x i)->dv m p j∣x j
section
variable {m:Int} {W:Nat} {p:List (List Int)}
theorem PTab.prow (h:PTab m W p) {j:Nat} (hj:j<W) (hr:row p (j:Int)≠[]):PRow m W j (row p (j:Int)):=(h.rws j hj).resolve_left hr
theorem Rws.zero (h:PTab m W p) {k j:Nat} {g:Vc} (hg:Rws W p k g) (hj:j<k):g j=0:=by obtain⟨i,h1,h2,h3,rfl⟩:=hg;exact(h.prow h2 h3).zero j (by omega)
theorem Rws.part {k:Nat} (hk:k<W) (hr:row p (k:Int)≠[]) {x:Vc} (hx:Sp m W (Rws W p k) x):∃(c:Int) (w:Vc),Sp m W (Rws W p (k+1)) w/\∀i,i<W->m∣c*V (row p (k:Int)) i+w i-x i:=by
 induction hx with
 | nil=>exact⟨0,_,.nil,λ i _=>ZaG (by simp)⟩
 | add d _ hg ih =>
  obtain⟨c,w,h1,h2⟩:=ih;obtain⟨j,j1,j2,j3,rfl⟩:=hg
  by_cases e:j=k
  ·subst e;refine⟨c+d,w,h1,λ i hi=>?_⟩;have:=h2 i hi;rw[Int.add_mul];rwa[show ∀a b c d:Int,a+b+c-(d+b)=a+c-d from λ a b c d=>by omega]
  ·refine⟨c,_,.add d h1 ⟨j,by omega,j2,j3,rfl⟩,λ i hi=>?_⟩;have:=h2 i hi;dsimp only;rwa[show ∀a b c d:Int,a+(b+c)-(d+c)=a+b-d from λ a b c d=>by omega]
 | alike _ h ih =>
  obtain⟨c,w,h1,h2⟩:=ih;refine⟨c,w,h1,λ i hi=>?_⟩;have:=Int.dvd_add (h2 i hi) (h i hi);rwa[show ∀a b c:Int,a-b+(b-c)=a-c from λ a b c=>by omega]at this
theorem Rws.next {k:Nat} (hr:row p (k:Int)=[]) {x:Vc} (hx:Sp m W (Rws W p k) x):Sp m W (Rws W p (k+1)) x:=hx.mono λ g ⟨j,j1,j2,j3,e⟩=>.gen ⟨j,by
 rcases Nat.lt_or_eq_of_le j1 with h|rfl
 ·exact h
 ·exact absurd hr j3,j2,j3,e⟩
theorem Rws.down (m0:0<m) (ht:PTab m W p) (hh:How m W p (Rws W p)) {x:Vc} (hx:Sp m W (Rws W p 0) x) {j:Nat} (hj:j<=W) (hz:∀i:Nat,i<j->m∣x i):∀k,k<=j->Sp m W (Rws W p k) x:=by
 intro k
 induction k with
 | zero=>exact λ _=>hx
 | succ k ih =>
  intro hk;have h:=ih (by omega)
  by_cases hr:row p (k:Int)=[]
  ·exact Rws.next hr h
  have hp:=ht.prow (by omega) hr;obtain⟨c,w,h1,h2⟩:=Rws.part (by omega) hr h;have hw:m∣w k:=h1.dvd (Int.dvd_refl m) (by omega) λ g hg=>by rw[Rws.zero ht hg (by omega)];exact Int.dvd_zero m
  have hc:m∣c*rd (row p (k:Int)) (k:Int):=by have:=Int.dvd_add (h2 k (by omega)) (hz k (by omega));rw[show ∀a b c:Int,a+b-c+c=a+b from λ a b c=>by omega]at this;have:=Int.dvd_sub this hw;rwa[show ∀a b:Int,a+b-b=a from λ a b=>by omega]at this
  obtain⟨q,hq⟩:=hp.dvd;have hd:=hp.pos;have hmd:m / rd (row p (k:Int)) (k:Int)=q:=by rw[hq];exact Int.mul_ediv_cancel_left _ (by omega)
  obtain⟨t,ht'⟩:q∣c:=by obtain⟨t,ht'⟩:=hc;refine⟨t,Int.eq_of_mul_eq_mul_left (show rd (row p (k:Int)) (k:Int)≠0 by omega) ?_⟩;rw[Int.mul_comm,ht', hq,Int.mul_assoc]
  have hH:=hh k (by omega) hr;rw[hmd]at hH;refine .alike ((hH.mul t).plus h1) λ i hi=>?_
  have:=h2 i hi;rwa[show t*(q*rd (row p (k:Int)) (i:Int))=c*V (row p (k:Int)) i by rw[ht', <-Int.mul_assoc,Int.mul_comm t q];rfl]
theorem Zog (m0:0<m) (ht:PTab m W p) (hh:How m W p (Rws W p)) {M:Vc->Prop} (hM:∀x,Sp m W (Rws W p 0) x↔M x):Lead m W p M where
 tab:=ht
 sub:=by rw[show M=Sp m W (Rws W p 0)from funext λ x=>propext (hM x).symm];exact Sp.sub
 own:=λ j hj hr=>(hM _).1 (.gen ⟨j,Nat.zero_le _,hj,hr,rfl⟩)
 lead:=λ x hx j hj hz=>by
  have h:=Rws.down m0 ht hh ((hM x).2 hx) (Nat.le_of_lt hj) hz j (Nat.le_refl _);unfold dv
  by_cases hr:row p (j:Int)=[]
  ·rw[if_pos hr];exact(Rws.next hr h).dvd (Int.dvd_refl m) hj λ g hg=>by rw[Rws.zero ht hg (by omega)];exact Int.dvd_zero m
  ·
   rw[if_neg hr];have hp:=ht.prow hj hr;refine h.dvd hp.dvd hj λ g hg=>?_
   obtain⟨i,i1,i2,i3,rfl⟩:=hg
   by_cases e:i=j
   ·subst e;exact Int.dvd_refl _
   ·have:V (row p (i:Int)) j=0:=(ht.prow i2 i3).zero j (by omega);rw[this];exact Int.dvd_zero _
theorem dv_bd (m0:0<m) (ht:PTab m W p) {j:Nat} (hj:j<W):0<dv m p j/\dv m p j<=m/\dv m p j∣m:=by
 unfold dv
 by_cases hr:row p (j:Int)=[]
 ·rw[if_pos hr];exact⟨m0,Int.le_refl _,Int.dvd_refl _⟩
 ·rw[if_neg hr];have hp:=ht.prow hj hr;exact⟨hp.pos,by have:=hp.lt;omega,hp.dvd⟩
theorem ZlA {a b:Int} (ha:0<a) (hb:0<b) (h:a∣b):a<=b:=Int.le_of_dvd hb h
theorem ZiS (m0:0<m) {p' : List (List Int)} {M:Vc->Prop} (h:Lead m W p M) (h' : Lead m W p' M) {j:Nat} (hj:j<W):dv m p j=dv m p' j:=by
 have key:∀{p p' : List (List Int)},Lead m W p M->Lead m W p' M->dv m p j∣dv m p' j:=λ {p p'} h h'=>by
  by_cases hr:row p' (j:Int)=[]
  ·rw[show dv m p' j=m from if_pos hr];exact(dv_bd m0 h.tab hj).2.2
  ·rw[show dv m p' j=rd (row p' (j:Int)) (j:Int)from if_neg hr];have hp:=h'.tab.prow hj hr;exact h.lead _ (h'.own j hj hr) j hj λ i hi=>by rw[show V (row p' (j:Int)) i=0 from hp.zero i hi];exact Int.dvd_zero m
 have a:=ZlA (dv_bd m0 h.tab hj).1 (dv_bd m0 h'.tab hj).1 (key h h');have b:=ZlA (dv_bd m0 h'.tab hj).1 (dv_bd m0 h.tab hj).1 (key h' h);omega
structure Least (m:Int) (W:Nat) (p:List (List Int)) (M:Vc->Prop) (x y:List Int):Prop where
 len:y.length=W
 ent:AllIn m y
 dif:M λ i=>rd x (i:Int)-rd y (i:Int)
 lt:∀j:Nat,j<W->rd y (j:Int)<dv m p j
theorem Least.same (m0:0<m) {p' : List (List Int)} {M:Vc->Prop} (h:Lead m W p M) (h' : Lead m W p' M) {x y y' : List Int} (hy:Least m W p M x y) (hy' : Least m W p' M x y'):y=y':=by
 have hd:M λ i=>rd y (i:Int)-rd y' (i:Int):=by
  refine h.sub.alike _ _ (h.sub.lin _ _ hy'.dif hy.dif (-1)) λ i _=>ZaG ?_
  omega
 have hall:∀n,n<=W->∀i:Nat,i<n->rd y (i:Int)=rd y' (i:Int):=by
  intro n
  induction n with
  | zero=>intro _ i hi;omega
  | succ n ih =>
   intro hn i hi;have ih:=ih (by omega)
   by_cases e:i=n
   ·
    subst e;have hl:=h.lead _ hd i (by omega) λ k hk=>by rw[ih k hk];exact⟨0,by omega⟩
    have a1:=hy.lt i (by omega);have a2:=hy'.lt i (by omega);rw[<-ZiS m0 h h' (show i<W by omega)]at a2;obtain⟨b1,_⟩:=hy.ent i (by omega) (by rw[hy.len];omega);obtain⟨b2,_⟩:=hy'.ent i (by omega) (by rw[hy'.len];omega);have hd0:=(dv_bd m0 h.tab (show i<W by omega)).1;obtain⟨q,hq⟩:=hl;have q0:q=0:=by
     rcases Int.lt_trichotomy q 0 with h|h|h
     ·have:=Int.mul_le_mul_of_nonneg_left (show q <= -1 by omega) (Int.le_of_lt hd0);omega
     ·exact h
     ·have:=Int.mul_le_mul_of_nonneg_left (show 1<=q by omega) (Int.le_of_lt hd0);omega
    rw[q0]at hq;omega
   ·exact ih i (by omega)
 refine ZgA (by rw[hy.len,hy'.len]) λ i i0 i1=>?_
 obtain⟨n,rfl⟩:=Int.eq_ofNat_of_zero_le i0;exact hall W (Nat.le_refl _) n (by have:=hy.len;omega)
end
theorem ModW {a m:Int} (h0 : -4000000000000000000<=a) (h1:a<=4000000000000000000) (m0:0<m) (m1:m<=1000000):ZaT.f a m=some (a%m):=by
 rw[ZaT.f_eq];have t0:=Int.tmod_lt_of_pos a m0;have t1 : -m<Int.tmod a m:=Int.lt_tmod_of_pos a m0;have hq:=Int.mul_tdiv_add_tmod a m;have h5:(m*a.tdiv m+a.tmod m)%m=a.tmod m%m:=by rw[Int.add_comm,Int.add_mul_emod_self_left]
 rw[hq]at h5;rw[w64 (by omega) (by omega),Int.tmod_eq_emod_of_nonneg (show 0<=Int.tmod a m+m by omega),Int.add_emod_right,<-h5]
 ((with_reducible repeat (first|refine go_p ?_|refine go_n ?_|refine go_b ?_|dsimp only));first|done|(with_reducible rfl)|simp (disch:=omega) only[w64])
def mix (m x:Int) (a:List Int) (y:Int) (b:List Int):List Int:=(List.range a.length).map λ(i:Nat)=>(x*rd a (i:Int)+y*rd b (i:Int))%m
theorem Zbl (m x:Int) (a:List Int) (y:Int) (b:List Int):(mix m x a y b).length=a.length:=by simp[mix]
theorem ZbT {m x:Int} {a:List Int} {y:Int} {b:List Int} {i:Nat} (h:i<a.length):rd (mix m x a y b) (i:Int)=(x*rd a (i:Int)+y*rd b (i:Int))%m:=by
 rw[rd_get (by rw[Zbl];exact h)]
 simp[mix]
theorem Zcp {m x:Int} {a:List Int} {y:Int} {b:List Int} (m0:0<m):AllIn m (mix m x a y b):=by
 refine ZbO λ z hz=>?_
 obtain⟨i,_,rfl⟩:=List.mem_map.1 hz;exact⟨Int.emod_nonneg _ (by omega),Int.emod_lt_of_pos _ m0⟩
theorem Zb1 {m x:Int} {a:List Int} {y:Int} {b:List Int} {i:Nat} (h:i<a.length):m∣x*rd a (i:Int)+y*rd b (i:Int)-rd (mix m x a y b) (i:Int):=by rw[ZbT h];exact Int.dvd_self_sub_emod
theorem ZdU {x a B m:Int} (x0 : -B<=x) (x1:x<=B) (a0:0<=a) (a1:a<m) (m1:m<=12) (B0:0<=B) : -(12*B)<=x*a/\x*a<=12*B:=by
 have h1:x*a<=B*a:=Int.mul_le_mul_of_nonneg_right x1 a0;have h2:(-B)*a<=x*a:=Int.mul_le_mul_of_nonneg_right x0 a0;have h3:B*a<=B*12:=Int.mul_le_mul_of_nonneg_left (by omega) B0;rw[Int.neg_mul]at h2
 constructor<;>omega
theorem ZhA {xs ys:List Int} {j:Nat} (hl:ys.length=xs.length) (hj:j<xs.length) {z:Int} (hz:z=rd ys (j:Int)):(ys.take j++xs.drop j).set j z=ys.take (j+1)++xs.drop (j+1):=by
 subst hz;rw[rd_get (by omega)]
 apply List.ext_getElem
 ·simp;omega
 ·
  intro i h1 h2;rw[List.getElem_set]
  by_cases e:j=i
  ·subst e;rw[if_pos rfl,List.getElem_append_left (by simp;omega)];simp
  ·
   rw[if_neg e]
   by_cases e2:i<j
   ·
    rw[List.getElem_append_left (by simp;omega),List.getElem_append_left (by simp;omega)]
    simp
   ·
    have:(List.take j ys).length=j:=by simp;omega
    have:(List.take (j+1) ys).length=j+1:=by simp;omega
    rw[List.getElem_append_right (by omega),List.getElem_append_right (by omega)];simp only[List.getElem_drop]
    congr 1
    omega
theorem combined {m:Int} (m2:2<=m) (m12:m<=12) {p:List (List Int)} {x y:Int} {a b:List Int} (ha:AllIn m a) (hb:AllIn m b) (hl:b.length=a.length) (hW:a.length<=1000000) (x0 : -100000000000000<=x) (x1:x<=100000000000000) (y0 : -100000000000000<=y) (y1:y<=100000000000000) :
  Zu.f m p x a y b=some (mix m x a y b):=by
 have hz:(List.replicate a.length (0:Int)).length=a.length:=List.length_replicate;have hml:=Zbl m x a y b;have loop:=up a.length (λ j=>Zu.l0 x y b a (a.length:Int) (j:Int) m p ((mix m x a y b).take j++(List.replicate a.length (0:Int)).drop j)) (λ j hj=>by
  obtain⟨a0,a1⟩:=ha j (by omega) (by omega);obtain⟨b0,b1⟩:=hb j (by omega) (by omega);have p1:=ZdU x0 x1 a0 a1 m12 (by omega);have p2:=ZdU y0 y1 b0 b1 m12 (by omega);have t0:=Int.tmod_lt_of_pos (x*rd a (j:Int)+y*rd b (j:Int)) (show 0<m by omega);have t1 : -m<Int.tmod (x*rd a (j:Int)+y*rd b (j:Int)) m:=Int.lt_tmod_of_pos _ (by omega);have hq:=Int.mul_tdiv_add_tmod (x*rd a (j:Int)+y*rd b (j:Int)) m;have h5:(m*(x*rd a (j:Int)+y*rd b (j:Int)).tdiv m+(x*rd a (j:Int)+y*rd b (j:Int)).tmod m)%m=(x*rd a (j:Int)+y*rd b (j:Int)).tmod m%m:=by rw[Int.add_comm,Int.add_mul_emod_self_left]
  rw[hq]at h5;have hv:(wrapI ((wrapI (wrapI (x*rd a (j:Int))+wrapI (y*rd b (j:Int)))).tmod m+m)).tmod m=rd (mix m x a y b) (j:Int):=by rw[w64 (x:=x*rd a (j:Int)) (by omega) (by omega),w64 (x:=y*rd b (j:Int)) (by omega) (by omega),w64 (x:=x*rd a (j:Int)+y*rd b (j:Int)) (by omega) (by omega),w64 (by omega) (by omega),ZbT hj,Int.tmod_eq_emod_of_nonneg (by omega),Int.add_emod_right,<-h5]
  have hs:=ZhA (xs:=List.replicate a.length (0:Int)) (ys:=mix m x a y b) (by omega) (by omega) (j:=j) hv;have hll:(((mix m x a y b).take j++(List.replicate a.length (0:Int)).drop j).length:Int)=a.length:=by simp;omega
  rw[Zu.l0_eq,wn (j:=j) (by omega),Int.toNat_natCast,hs,hll]
  ((with_reducible repeat (first|refine go_p ?_|refine go_n ?_|refine go_b ?_|dsimp only));first|done|(with_reducible rfl)|simp (disch:=omega) only[w64]))
 rw[Zu.f_eq,Int.toNat_natCast];rw[List.take_zero,List.nil_append,List.drop_zero,Int.natCast_zero]at loop;rw[loop,Zu.l0_eq,show(mix m x a y b).take a.length=mix m x a y b from List.take_of_length_le (by omega),List.drop_of_length_le (by simp),List.append_nil]
 ((with_reducible repeat (first|refine go_p ?_|refine go_n ?_|refine go_b ?_|dsimp only));first|done|(with_reducible rfl)|simp (disch:=omega) only[w64])
theorem Mix_ {m:Int} (m2:2<=m) (m12:m<=12) {x y:Int} {a b:List Int} (ha:AllIn m a) (hb:AllIn m b) (hl:b.length=a.length) (hW:a.length<=1000000) (x0 : -100000000000000<=x) (x1:x<=100000000000000) (y0 : -100000000000000<=y) (y1:y<=100000000000000) :
  ZU.f a b x y m=some (mix m x a y b):=by
 have hz:(List.replicate a.length (0:Int)).length=a.length:=List.length_replicate;have hml:=Zbl m x a y b;have loop:=up a.length (λ j=>ZU.l0 a b x y m (j:Int) ((mix m x a y b).take j++(List.replicate a.length (0:Int)).drop j)) (λ j hj=>by
  obtain⟨a0,a1⟩:=ha j (by omega) (by omega);obtain⟨b0,b1⟩:=hb j (by omega) (by omega);have p1:=ZdU x0 x1 a0 a1 m12 (by omega);have p2:=ZdU y0 y1 b0 b1 m12 (by omega);have hM:=ModW (a:=x*rd a (j:Int)+y*rd b (j:Int)) (m:=m) (by omega) (by omega) (by omega) (by omega);have hs:=ZhA (xs:=List.replicate a.length (0:Int)) (ys:=mix m x a y b) (by omega) (by omega) (j:=j) (ZbT hj).symm;have hll:(((mix m x a y b).take j++(List.replicate a.length (0:Int)).drop j).length:Int)=a.length:=by simp;omega
  rw[ZU.l0_eq,wn (j:=j) (by omega),w64 (x:=x*rd a (j:Int)) (by omega) (by omega),w64 (x:=y*rd b (j:Int)) (by omega) (by omega),w64 (by omega) (by omega),hM,Option.bind_some,Int.toNat_natCast,hs,hll]
  ((with_reducible repeat (first|refine go_p ?_|refine go_n ?_|refine go_b ?_|dsimp only));first|done|(with_reducible rfl)|simp (disch:=omega) only[w64]))
 rw[ZU.f_eq,Int.toNat_natCast];rw[List.take_zero,List.nil_append,List.drop_zero,Int.natCast_zero]at loop;rw[loop,ZU.l0_eq,show(mix m x a y b).take a.length=mix m x a y b from List.take_of_length_le (by omega),List.drop_of_length_le (by simp),List.append_nil]
 ((with_reducible repeat (first|refine go_p ?_|refine go_n ?_|refine go_b ?_|dsimp only));first|done|(with_reducible rfl)|simp (disch:=omega) only[w64])
theorem bez (a b:Nat):∃s t:Int,s*a+t*b=((Nat.gcd a b:Nat):Int):=by
 induction a,b using Nat.gcd.induction with
 | H0 n=>exact⟨0,1,by simp⟩
 | H1 a b ha ih =>
  obtain⟨s,t,h⟩:=ih;refine⟨t-s*((b / a:Nat):Int),s,?_⟩;rw[Nat.gcd_rec a b,<-h];have h1:(b:Int)=(a:Int)*((b / a:Nat):Int)+((b%a:Nat):Int):=by exact_mod_cast (Nat.div_add_mod b a).symm
  rw[Int.sub_mul,Int.mul_assoc,Int.mul_comm ((b / a:Nat):Int) (a:Int)];have h2:s*(b:Int)=s*((a:Int)*((b / a:Nat):Int))+s*((b%a:Nat):Int):=by rw[<-Int.mul_add,<-h1]
  omega
theorem ZnT {m a b:Int} (m0:0<m) (a0:0<=a) (b0:0<=b):∃x y:Int,(0<=x/\x<m)/\(0<=y/\y<m)/\m∣x*a+y*b-((Int.gcd ((Int.gcd a b:Nat):Int) m:Nat):Int):=by
 obtain⟨A,rfl⟩:=Int.eq_ofNat_of_zero_le a0;obtain⟨C,rfl⟩:=Int.eq_ofNat_of_zero_le b0;obtain⟨M,rfl⟩:=Int.eq_ofNat_of_zero_le (Int.le_of_lt m0);obtain⟨s,t,h1⟩:=bez A C;obtain⟨s', t', h2⟩:=bez (Nat.gcd A C) M;refine⟨(s' * s)%M,(s' * t)%M,⟨Int.emod_nonneg _ (by omega),Int.emod_lt_of_pos _ m0⟩,⟨Int.emod_nonneg _ (by omega),Int.emod_lt_of_pos _ m0⟩,?_⟩;show(M:Int)∣(s' * s)%M*A+(s' * t)%M*C-((Nat.gcd (Nat.gcd A C) M:Nat):Int);have e1:(s' * s)%(M:Int)=s' * s-M*(s' * s / M):=by have:=Int.mul_ediv_add_emod (s' * s) M;omega
 have e2:(s' * t)%(M:Int)=s' * t-M*(s' * t / M):=by have:=Int.mul_ediv_add_emod (s' * t) M;omega
 rw[e1,e2];refine⟨-(s' * s / M*A)-(s' * t / M*C)-t', ?_⟩;have h3:s' * (s*(A:Int)+t*(C:Int))=s' * ((Nat.gcd A C:Nat):Int):=by rw[h1]
 rw[Int.mul_add,<-Int.mul_assoc,<-Int.mul_assoc]at h3;rw[Int.sub_mul,Int.sub_mul,Int.mul_sub,Int.mul_sub,Int.mul_neg,Int.mul_assoc (M:Int),Int.mul_assoc (M:Int),Int.mul_comm (M:Int) t'];omega
theorem ZcG {a m:Int}:Int.tmod a m=0↔m∣a:=⟨Int.dvd_of_tmod_eq_zero,Int.tmod_eq_zero_of_dvd⟩
theorem bezout {m:Int} (m2:2<=m) (m12:m<=12) {p:List (List Int)} {a b:Int} (a0:0<=a) (a1:a<=12) (b0:0<=b) (b1:b<=12) :
  ∃x y:Int,Zv.f m p a b=some (x,y,((Int.gcd ((Int.gcd a b:Nat):Int) m:Nat):Int))/\(0<=x/\x<m)/\(0<=y/\y<m)/\m∣x*a+y*b-((Int.gcd ((Int.gcd a b:Nat):Int) m:Nat):Int):=by
 have hg1:=gcd_ a0 b0;have hg2:=gcd_ (a:=((Int.gcd a b:Nat):Int)) (b:=m) (by omega) (by omega);have hd:0<=((Int.gcd ((Int.gcd a b:Nat):Int) m:Nat):Int)/\((Int.gcd ((Int.gcd a b:Nat):Int) m:Nat):Int)<=m:=by
  constructor
  ·omega
  ·exact Int.le_of_dvd (by omega) (Int.gcd_dvd_right ..)
 obtain⟨x0,y0,hx0,hy0,h0⟩:=ZnT (m:=m) (by omega) a0 b0;rw[Zv.f_eq,hg1,Option.bind_some,hg2,Option.bind_some]
 generalize ((Int.gcd ((Int.gcd a b:Nat):Int) m:Nat):Int)=d at hd h0 ⊢
 have inner:∀(n:Nat) (x y:Int),0<=x->x<m->0<=y->y+n=m->(∃y', (0<=y' /\ y'<m)/\m∣x*a+y' * b-d/\Zv.l1 a b d x m x m y m p=some (x,y', d))\/((∀y', y<=y'->y'<m->¬ m∣x*a+y' * b-d)/\Zv.l1 a b d x m x m y m p=Zv.l0 a b d m (x+1) m p):=by
  intro n
  induction n with
  | zero =>
   intro x y hx hx' hy hn;refine .inr ⟨λ y' h1 h2=>by omega,?_⟩;rw[Zv.l1_eq,w64 (x:=x+1) (by omega) (by omega)]
   ((with_reducible repeat (first|refine go_p ?_|refine go_n ?_|refine go_b ?_|dsimp only));first|done|(with_reducible rfl)|simp (disch:=omega) only[w64])
  | succ n ih =>
   intro x y hx hx' hy hn;have p1:=ZdU (x:=x) (a:=a) (B:=12) (m:=13) (by omega) (by omega) a0 (by omega);have q1:0<=x*a:=Int.mul_nonneg hx a0;have q2:x*a<=12*12:=Int.mul_le_mul (by omega) a1 a0 (by omega);have q3:0<=y*b:=Int.mul_nonneg hy b0;have q4:y*b<=12*12:=Int.mul_le_mul (by omega) b1 b0 (by omega);have hv:wrapI (wrapI (wrapI (x*a)+wrapI (y*b))-d)=x*a+y*b-d:=by rw[w64 (x:=x*a) (by omega) (by omega),w64 (x:=y*b) (by omega) (by omega),w64 (x:=x*a+y*b) (by omega) (by omega),w64 (by omega) (by omega)]
   by_cases h:m∣x*a+y*b-d
   ·
    refine .inl ⟨y,⟨hy,by omega⟩,h,?_⟩;have ht:=ZcG.2 h;rw[Zv.l1_eq,hv]
    ((with_reducible repeat (first|refine go_p ?_|refine go_n ?_|refine go_b ?_|dsimp only));first|done|(with_reducible rfl)|simp (disch:=omega) only[w64])
   ·
    have ht:¬ Int.tmod (x*a+y*b-d) m=0:=λ k=>h (ZcG.1 k)
    have hl:Zv.l1 a b d x m x m y m p=Zv.l1 a b d x m x m (y+1) m p:=by
     rw[Zv.l1_eq,hv,w64 (x:=y+1) (by omega) (by omega)]
     ((with_reducible repeat (first|refine go_p ?_|refine go_n ?_|refine go_b ?_|dsimp only));first|done|(with_reducible rfl)|simp (disch:=omega) only[w64])
    rcases ih x (y+1) hx hx' (by omega) (by omega)with ⟨y', h1,h2,h3⟩|⟨h1,h2⟩
    ·exact .inl ⟨y', h1,h2,hl.trans h3⟩
    ·
     refine .inr ⟨λ y' k1 k2=>?_,hl.trans h2⟩
     by_cases e:y'=y
     ·rw[e];exact h
     ·exact h1 y' (by omega) k2
 have outer:∀(n:Nat) (x:Int),0<=x->x+n=m->x<=x0->∃x' y', Zv.l0 a b d m x m p=some (x', y', d)/\(0<=x' /\ x'<m)/\(0<=y' /\ y'<m)/\m∣x' * a+y' * b-d:=by
  intro n
  induction n with
  | zero=>intro x hx hn hx0';omega
  | succ n ih =>
   intro x hx hn hx0';have hl:Zv.l0 a b d m x m p=Zv.l1 a b d x m x m 0 m p:=by
    rw[Zv.l0_eq]
    ((with_reducible repeat (first|refine go_p ?_|refine go_n ?_|refine go_b ?_|dsimp only));first|done|(with_reducible rfl)|simp (disch:=omega) only[w64])
   rw[hl];rcases inner m.toNat x 0 hx (by omega) (by omega) (by omega)with ⟨y', h1,h2,h3⟩|⟨h1,h2⟩
   ·exact⟨x,y', h3,⟨hx,by omega⟩,h1,h2⟩
   ·
    rw[h2];refine ih (x+1) (by omega) (by omega) ?_
    by_cases e:x=x0
    ·exact absurd (e ▸ h0) (h1 y0 hy0.1 hy0.2)
    ·omega
 exact outer m.toNat 0 (by omega) (by omega) hx0.1
theorem ZiA {a b:Int} (a0:0<=a) (a1:a<=12) (b0:0<=b) (b1:b<=12) :
  ∃s t:Int,Z5.f a b=some (((Int.gcd a b:Nat):Int),s,t)/\s*a+t*b=((Int.gcd a b:Nat):Int)/\(-100000000000000<=s/\s<=100000000000000)/\(-100000000000000<=t/\t<=100000000000000):=by
 have key:∀(k:Nat) (x y:Nat) (s t u v K:Int),x<=12->y<=12->y<=k->(-K<=s/\s<=K)->(-K<=t/\t<=K)->(-K<=u/\u<=K)->(-K<=v/\v<=K)->0<=K->K*13 ^ k<=100000000000000->s*a+t*b=x->u*a+v*b=y ->
   ∃s' t' : Int,Z5.l0 (x:Int) (y:Int) s t u v=some (((Nat.gcd x y:Nat):Int),s', t')/\s' * a+t' * b=((Nat.gcd x y:Nat):Int)/\(-100000000000000<=s' /\ s' <= 100000000000000)/\(-100000000000000<=t' /\ t' <= 100000000000000):=by
  intro k
  induction k with
  | zero =>
   intro x y s t u v K hx hy12 hy hs ht hu hv hK hKk h1 h2;obtain rfl:y=0:=by omega
   rw[Int.pow_zero,Int.mul_one]at hKk;refine⟨s,t,?_,by rw[Nat.gcd_zero_right];exact h1,by omega,by omega⟩;rw[Z5.l0_eq,Nat.gcd_zero_right]
   ((with_reducible repeat (first|refine go_p ?_|refine go_n ?_|refine go_b ?_|dsimp only));first|done|(with_reducible rfl)|simp (disch:=omega) only[w64])
  | succ k ih =>
   intro x y s t u v K hx hy12 hy hs ht hu hv hK hKk h1 h2;have hpow:(1:Int)<=13 ^ k:=Int.pow_pos (by decide);rw[Int.pow_succ,Int.mul_comm (13 ^ k) 13,<-Int.mul_assoc]at hKk;have hK1:K*13<=K*13*13 ^ k:=by have:=Int.mul_le_mul_of_nonneg_left hpow (show 0<=K*13 by omega);rwa[Int.mul_one]at this
   by_cases e:y=0
   ·
    subst e;refine⟨s,t,?_,by rw[Nat.gcd_zero_right];exact h1,by omega,by omega⟩;rw[Z5.l0_eq,Nat.gcd_zero_right]
    ((with_reducible repeat (first|refine go_p ?_|refine go_n ?_|refine go_b ?_|dsimp only));first|done|(with_reducible rfl)|simp (disch:=omega) only[w64])
   ·
    have hq:(x:Int).tdiv (y:Int)=((x / y:Nat):Int):=by rw[Int.tdiv_eq_ediv_of_nonneg (by omega)];rfl
    have hq12:x / y<=12:=Nat.le_trans (Nat.div_le_self _ _) hx;have hm:=Nat.div_add_mod x y;have hlt:=Nat.mod_lt x (show 0<y by omega)
    generalize x / y=Q at hq hq12 hm
    have hqy:(Q:Int)*(y:Int)=(x:Int)-((x%y:Nat):Int):=by
     have:(y:Int)*(Q:Int)+((x%y:Nat):Int)=(x:Int):=by exact_mod_cast hm
     rw[Int.mul_comm];omega
    have bd:∀z:Int,(-K<=z/\z<=K) -> -(12*K)<=(Q:Int)*z/\(Q:Int)*z<=12*K:=λ z hz=>by have h1:(Q:Int)*z<=(Q:Int)*K:=Int.mul_le_mul_of_nonneg_left hz.2 (by omega);have h2:(Q:Int)*(-K)<=(Q:Int)*z:=Int.mul_le_mul_of_nonneg_left hz.1 (by omega);have h3:(Q:Int)*K<=12*K:=Int.mul_le_mul_of_nonneg_right (by omega) hK;rw[Int.mul_neg]at h2;omega
    have bu:=bd u hu;have bv:=bd v hv;have hmod:((x%y:Nat):Int)=(x:Int)-(Q:Int)*y:=by omega
    obtain⟨s', t', k1,k2,k3,k4⟩:=ih y (x%y) u v (s-(Q:Int)*u) (t-(Q:Int)*v) (K*13) (by omega) (by omega) (by omega) ⟨by omega,by omega⟩ ⟨by omega,by omega⟩ ⟨by omega,by omega⟩ ⟨by omega,by omega⟩ (by omega) hKk h2 (by rw[Int.sub_mul,Int.sub_mul,hmod,<-h1,<-h2,Int.mul_add,Int.mul_assoc,Int.mul_assoc];omega)
    have hgc:Nat.gcd y (x%y)=Nat.gcd x y:=by rw[Nat.gcd_comm x y,Nat.gcd_rec y x,Nat.gcd_comm]
    rw[hgc]at k1 k2;refine⟨s', t', ?_,k2,k3,k4⟩;have w1:wrapI (Q:Int)=(Q:Int):=w64 (by omega) (by omega);rw[Z5.l0_eq,hq,w1,hqy,w64 (x:=(x:Int)-((x%y:Nat):Int)) (by omega) (by omega),w64 (x:=(x:Int)-((x:Int)-((x%y:Nat):Int))) (by omega) (by omega),w64 (x:=(Q:Int)*u) (by omega) (by omega),w64 (x:=(Q:Int)*v) (by omega) (by omega),w64 (x:=s-(Q:Int)*u) (by omega) (by omega),w64 (x:=t-(Q:Int)*v) (by omega) (by omega),show(x:Int)-((x:Int)-((x%y:Nat):Int))=((x%y:Nat):Int)by omega]
    (with_reducible repeat (first|refine go_p ?_|refine go_n ?_|refine go_b ?_|dsimp only))
    exact k1
 obtain⟨A,rfl⟩:=Int.eq_ofNat_of_zero_le a0;obtain⟨C,rfl⟩:=Int.eq_ofNat_of_zero_le b0;rw[Z5.f_eq];exact key 12 A C 1 0 0 1 1 (by omega) (by omega) (by omega) (by omega) (by omega) (by omega) (by omega) (by omega) (by decide) (by omega) (by omega)
theorem Zkm:∀m:Nat,m<=12->∀x:Nat,x<m->0<x->((List.range 13).any λ u=>decide (1<=u) && decide (Nat.gcd u m=1) && decide (x*u%m=Nat.gcd x m%m))=true:=by decide
theorem Zoe:∀m:Nat,m<=12->∀u:Nat,u<=12->2<=m->Nat.gcd u m=1->((List.range 13).any λ v=>decide (u*v%m=1))=true:=by decide
theorem ZhF {m u:Int} (m2:2<=m) (m12:m<=12) (u0:0<=u) (u1:u<=12) (h:Int.gcd u m=1):∃v:Int,m∣u*v-1:=by
 obtain⟨M,rfl⟩:=Int.eq_ofNat_of_zero_le (show 0<=m by omega);obtain⟨U,rfl⟩:=Int.eq_ofNat_of_zero_le u0;have:=Zoe M (by omega) U (by omega) (by omega) (by simpa [Int.gcd] using h);obtain⟨v,_,hv⟩:=List.any_eq_true.1 this;have hv:=of_decide_eq_true hv;refine⟨(v:Int),((U*v / M:Nat):Int),?_⟩;have h1:=Nat.div_add_mod (U*v) M;rw[hv]at h1;have:(M:Int)*((U*v / M:Nat):Int)+1=(U:Int)*(v:Int):=by exact_mod_cast h1
 omega
theorem Unit_ {m:Int} (m2:2<=m) (m12:m<=12) {own:List Int} (ho:AllIn m own) (hW:own.length<=1000000) {j:Nat} (hj:j<own.length) (hx:¬ rd own (j:Int)=0) :
  ∃u:Int,(1<=u/\u<=12)/\Int.gcd u m=1/\m∣u*rd own (j:Int)-((Int.gcd (rd own (j:Int)) m:Nat):Int)/\Zao.f own (j:Int) m=some (mix m u own 0 own):=by
 obtain⟨x0,x1⟩:=ho j (by omega) (by omega);have hG:=Gcd_ (a:=rd own (j:Int)) (b:=m) (by omega) (by omega) (by omega) (by omega);rw[Zao.f_eq];have hex:∃u:Nat,1<=u/\u<=12/\Int.gcd (u:Int) m=1/\(rd own (j:Int)*u)%m=((Int.gcd (rd own (j:Int)) m:Nat):Int)%m:=by
  obtain⟨X,hX⟩:=Int.eq_ofNat_of_zero_le x0;obtain⟨M,rfl⟩:=Int.eq_ofNat_of_zero_le (show 0<=m by omega);have:=Zkm M (by omega) X (by omega) (by omega);obtain⟨u,hu1,hu2⟩:=List.any_eq_true.1 this;have hu1:=List.mem_range.1 hu1;simp only[Bool.and_eq_true,decide_eq_true_eq]at hu2;refine⟨u,hu2.1.1,by omega,by simpa [Int.gcd] using hu2.1.2,?_⟩;rw[hX];have h2:=hu2.2;have e:Int.gcd (X:Int) (M:Int)=Nat.gcd X M:=by simp[Int.gcd]
  rw[e]
  exact_mod_cast h2
 obtain⟨u0,u1,u2,u3,u4⟩:=hex;have hd:0<((Int.gcd (rd own (j:Int)) m:Nat):Int)/\((Int.gcd (rd own (j:Int)) m:Nat):Int)<m:=by have h1:((Int.gcd (rd own (j:Int)) m:Nat):Int)<=rd own (j:Int):=Int.le_of_dvd (by omega) (Int.gcd_dvd_left ..);have h2:0<Int.gcd (rd own (j:Int)) m:=Int.gcd_pos_of_ne_zero_left _ hx;omega
 generalize ((Int.gcd (rd own (j:Int)) m:Nat):Int)=d at hd u4 hG ⊢
 have hdm:d.tmod m=d:=by rw[Int.tmod_eq_emod_of_nonneg (by omega),Int.emod_eq_of_lt (by omega) (by omega)]
 rw[Int.emod_eq_of_lt (a:=d) (by omega) (by omega)]at u4;have loop:∀(n u:Nat),1<=u->u+n=u0->∃u' : Int,(1<=u' /\ u' <= 12)/\Int.gcd u' m=1/\m∣u' * rd own (j:Int)-d/\Zao.l0 own (j:Int) m d (u:Int)=some (mix m u' own 0 own):=by
  intro n
  induction n with
  | zero =>
   intro u hu hn;obtain rfl:u=u0:=by omega
   have hg:=Gcd_ (a:=(u:Int)) (b:=m) (by omega) (by omega) (by omega) (by omega);rw[u3]at hg;have hmix:=Mix_ m2 m12 (x:=(u:Int)) (y:=0) ho ho rfl hW (by omega) (by omega) (by omega) (by omega);have p1:=ZdU (x:=(u:Int)) (a:=rd own (j:Int)) (B:=12) (by omega) (by omega) x0 x1 m12 (by omega);have p2:0<=(u:Int)*rd own (j:Int):=Int.mul_nonneg (by omega) x0;have e1:wrapI (rd own (j:Int)*(u:Int))=(u:Int)*rd own (j:Int):=by rw[Int.mul_comm,w64 (by omega) (by omega)]
   have e2:((u:Int)*rd own (j:Int)).tmod m=d.tmod m:=by rw[hdm,Int.tmod_eq_emod_of_nonneg p2,Int.mul_comm,u4]
   refine⟨(u:Int),by omega,u3,?_,?_⟩
   ·rw[<-u4,Int.mul_comm];exact Int.dvd_self_sub_emod
   ·
    rw[Zao.l0_eq,e1]
    ((with_reducible repeat (first|refine go_p ?_|refine go_n ?_|refine go_b ?_|dsimp only));first|done|(with_reducible rfl)|simp (disch:=omega) only[w64])
  | succ n ih =>
   intro u hu hn;have hg:=Gcd_ (a:=(u:Int)) (b:=m) (by omega) (by omega) (by omega) (by omega);have p1:=ZdU (x:=(u:Int)) (a:=rd own (j:Int)) (B:=12) (by omega) (by omega) x0 x1 m12 (by omega);have p2:0<=(u:Int)*rd own (j:Int):=Int.mul_nonneg (by omega) x0;have e1:wrapI (rd own (j:Int)*(u:Int))=(u:Int)*rd own (j:Int):=by rw[Int.mul_comm,w64 (by omega) (by omega)]
   by_cases h1:Int.gcd (u:Int) m=1
   ·
    rw[h1]at hg
    by_cases h2:((u:Int)*rd own (j:Int)).tmod m=d.tmod m
    ·
     have hmix:=Mix_ m2 m12 (x:=(u:Int)) (y:=0) ho ho rfl hW (by omega) (by omega) (by omega) (by omega);refine⟨(u:Int),by omega,h1,?_,?_⟩
     ·rw[hdm,Int.tmod_eq_emod_of_nonneg p2]at h2;rw[<-h2];exact Int.dvd_self_sub_emod
     ·
      rw[Zao.l0_eq,e1]
      ((with_reducible repeat (first|refine go_p ?_|refine go_n ?_|refine go_b ?_|dsimp only));first|done|(with_reducible rfl)|simp (disch:=omega) only[w64])
    ·
     obtain⟨u', k1,k2,k3,k4⟩:=ih (u+1) (by omega) (by omega);refine⟨u', k1,k2,k3,?_⟩;rw[Zao.l0_eq,e1,wn (j:=u) (by omega)]
     (with_reducible repeat (first|refine go_p ?_|refine go_n ?_|refine go_b ?_|dsimp only))
     exact k4
   ·
    have h1' : ¬ ((Int.gcd (u:Int) m:Nat):Int)=1:=by omega
    obtain⟨u', k1,k2,k3,k4⟩:=ih (u+1) (by omega) (by omega);refine⟨u', k1,k2,k3,?_⟩;rw[Zao.l0_eq,wn (j:=u) (by omega)]
    (with_reducible repeat (first|refine go_p ?_|refine go_n ?_|refine go_b ?_|dsimp only))
    exact k4
 obtain⟨u', k1,k2,k3,k4⟩:=loop (u0-1) 1 (by omega) (by omega);refine⟨u', k1,k2,k3,?_⟩
 (with_reducible repeat (first|refine go_p ?_|refine go_n ?_|refine go_b ?_|dsimp only))
 exact k4
theorem ZaX {p:List (List Int)} {j:Nat} {n:List Int} (h:j<p.length):row (p.set j n) (j:Int)=n:=by
 rw[Zbz (by rw[List.length_set];exact h)]
 simp
theorem Zbm {p:List (List Int)} {i j:Nat} {n:List Int} (h:i≠j):row (p.set j n) (i:Int)=row p (i:Int):=by simp only[row,Int.toNat_natCast,List.getD_eq_getElem?_getD,List.getElem?_set,if_neg (show ¬ j=i from λ e=>h e.symm)]
def Zb (k:Nat) (s:List Int):Prop:=∀i:Nat,i<k->rd s (i:Int)=0
section
variable {m:Int} {W:Nat} {p p' st st' : List (List Int)} {M:Vc->Prop}
theorem PTab.set (h:PTab m W p) {j:Nat} {n:List Int} (hj:j<W) (hn:PRow m W j n):PTab m W (p.set j n) where
 len:=by rw[List.length_set];exact h.len
 rws:=λ i hi=>by
  by_cases e:i=j
  ·subst e;rw[ZaX (by rw[h.len];exact hj)];exact .inr hn
  ·rw[Zbm e];exact h.rws i hi
theorem PRow.ne {j:Nat} {n:List Int} (h:PRow m W j n):n≠[]:=λ e=>by have:=h.pos;rw[e]at this;simp[rd]at this
def dsum (m:Int) (p:List (List Int)):Nat->Int
 | 0=>0
 | k+1=>dsum m p k+dv m p k
theorem Zen (hl:p.length=W) {j:Nat} {n:List Int} (hj:j<W) (hn:n≠[]):dv m (p.set j n) j=rd n (j:Int):=by unfold dv;rw[ZaX (by omega),if_neg hn]
theorem Zlz {i j:Nat} {n:List Int} (h:i≠j):dv m (p.set j n) i=dv m p i:=by unfold dv;rw[Zbm h]
theorem Zg8 (hl:p.length=W) {j:Nat} {n:List Int} (hj:j<W):∀k,dsum m (p.set j n) k=dsum m p k+if j<k then dv m (p.set j n) j-dv m p j else 0:=by
 intro k
 induction k with
 | zero=>simp[dsum]
 | succ k ih =>
  rw[dsum,dsum,ih]
  by_cases e:j=k
  ·subst e;rw[if_neg (Nat.lt_irrefl j),if_pos (Nat.lt_succ_self j)];omega
  ·
   rw[Zlz (λ q=>e q.symm)]
   by_cases h:j<k
   ·rw[if_pos h,if_pos (by omega)];omega
   ·rw[if_neg h,if_neg (by omega)];omega
theorem Zdm (m0:0<m) (ht:PTab m W p):∀k,k<=W->0<=dsum m p k/\dsum m p k<=m*k:=by
 intro k
 induction k with
 | zero=>intro _;simp[dsum]
 | succ k ih =>
  intro hk;obtain⟨a,b⟩:=ih (by omega);obtain⟨c,d,_⟩:=dv_bd m0 ht (show k<W by omega);rw[dsum,show m*((k+1:Nat):Int)=m*(k:Int)+m by rw[Int.natCast_add,Int.mul_add];simp];omega
structure Pst (m:Int) (W:Nat) (p st:List (List Int)) (M:Vc->Prop):Prop where
 inv:Inv m W p st
 spn:∀x,Sp m W (GT W p st 0) x↔M x
theorem Pst.step (h:Pst m W p st M) (ht:PTab m W p') (hs:∀s∈st', s.length=W/\AllIn m s)
  (ha:∀k g,GT W p st k g->Sp m W (GT W p' st' k) g) (hb:∀g,GT W p' st' 0 g->Sp m W (GT W p st 0) g)
  (hn:∀j:Nat,j<W->row p' (j:Int)≠[]->row p' (j:Int)≠row p (j:Int)->Sp m W (GT W p' st' (j+1)) (λ i=>m / rd (row p' (j:Int)) (j:Int)*rd (row p' (j:Int)) (i:Int))):Pst m W p' st' M where
 inv:=⟨ht,hs,λ j hj hr=>by
  by_cases e:row p' (j:Int)=row p (j:Int)
  ·
   have:=h.inv.how j hj (by rw[<-e];exact hr)
   rw[e];exact this.mono (ha (j+1))
  ·exact hn j hj hr e⟩
 spn:=λ x=>by rw[<-h.spn x];exact⟨λ hx=>hx.mono hb,λ hx=>hx.mono (ha 0)⟩
theorem GT.zb {k:Nat} {s:List Int} (hs:s∈st) (hz:Zb k s):GT W p st k (V s):=.inr ⟨s,hs,hz,rfl⟩
theorem Pst.drop {v:List Int} (h:Pst m W p (st++[v]) M) (hz:Zb W v):Pst m W p st M:=by
 refine h.step h.inv.tab (λ s hs=>h.inv.sts s (List.mem_append_left _ hs)) (λ k g hg=>?_) (λ g hg=>.gen ?_) (λ j _ _ e=>absurd rfl e)
 ·
  rcases hg with hg|⟨s,hs,hk,rfl⟩
  ·exact .gen (.inl hg)
  ·
   rcases List.mem_append.1 hs with hs|hs
   ·exact .gen (.inr ⟨s,hs,hk,rfl⟩)
   ·rw[List.mem_singleton]at hs;subst hs;exact .alike .nil λ i hi=>by rw[show V s i=0 from hz i hi];exact⟨0,by omega⟩
 ·
  rcases hg with hg|⟨s,hs,hk,rfl⟩
  ·exact .inl hg
  ·exact .inr ⟨s,List.mem_append_left _ hs,hk,rfl⟩
theorem Pst.less {v w:List Int} {c:Int} (h:Pst m W p (st++[v]) M) {j:Nat} (hj:j<W) (hr:row p (j:Int)≠[]) (hvj:rd v (j:Int)≠0) (hw:w.length=W/\AllIn m w) (hz:Zb j w)
  (he:∀i:Nat,i<W->m∣1*rd v (i:Int)+(-c)*rd (row p (j:Int)) (i:Int)-rd w (i:Int)):Pst m W p (st++[w]) M:=by
 refine h.step h.inv.tab (λ s hs=>?_) (λ k g hg=>?_) (λ g hg=>?_) (λ j _ _ e=>absurd rfl e)
 ·
  rcases List.mem_append.1 hs with hs|hs
  ·exact h.inv.sts s (List.mem_append_left _ hs)
  ·rw[List.mem_singleton]at hs;subst hs;exact hw
 ·
  rcases hg with hg|⟨s,hs,hk,rfl⟩
  ·exact .gen (.inl hg)
  ·
   rcases List.mem_append.1 hs with hs|hs
   ·exact .gen (.inr ⟨s,List.mem_append_left _ hs,hk,rfl⟩)
   ·
    rw[List.mem_singleton]at hs;subst hs;have hkj:k<=j:=by
     by_cases q:k<=j
     ·exact q
     ·exact absurd (hk j (by omega)) hvj
    refine Sp.two (a:=1) (b:=c) (x:=V w) (y:=V (row p (j:Int))) (.gen (GT.zb (List.mem_append_right _ (List.mem_singleton.2 rfl)) λ i hi=>hz i (by omega))) (.gen (.inl ⟨j,hkj,hj,hr,rfl⟩)) λ i hi=>?_
    obtain⟨q,hq⟩:=he i hi;refine⟨-q,?_⟩;rw[Int.mul_neg,<-hq,Int.neg_mul];show 1*rd w (i:Int)+c*rd (row p (j:Int)) (i:Int)-rd s (i:Int)=_;omega
 ·
  rcases hg with hg|⟨s,hs,hk,rfl⟩
  ·exact .gen (.inl hg)
  ·
   rcases List.mem_append.1 hs with hs|hs
   ·exact .gen (.inr ⟨s,List.mem_append_left _ hs,hk,rfl⟩)
   ·rw[List.mem_singleton]at hs;subst hs;exact Sp.two (a:=1) (b:=-c) (x:=V v) (y:=V (row p (j:Int))) (.gen (GT.zb (List.mem_append_right _ (List.mem_singleton.2 rfl)) λ i hi=>by omega)) (.gen (.inl ⟨j,Nat.zero_le _,hj,hr,rfl⟩)) λ i hi=>he i hi
theorem Pst.swap {v n:List Int} {ws:List (List Int)} (h:Pst m W p (st++[v]) M) {j:Nat} (hj:j<W) (hvj:rd v (j:Int)≠0) (hn:PRow m W j n) (hws:∀w∈ws,(w.length=W/\AllIn m w)/\Zb (j+1) w)
  (ho:row p (j:Int)≠[]->Sp m W (λ g=>g=V n\/∃w∈ws,g=V w) (V (row p (j:Int))))
  (hv:Sp m W (λ g=>g=V n\/∃w∈ws,g=V w) (V v))
  (hd:Sp m W (λ g=>∃w∈ws,g=V w) (λ i=>m / rd n (j:Int)*rd n (i:Int)))
  (hb:∀g,(g=V n\/∃w∈ws,g=V w)->Sp m W (λ g=>g=V v\/(row p (j:Int)≠[]/\g=V (row p (j:Int)))) g):Pst m W (p.set j n) (st++ws) M:=by
 have hpl:j<p.length:=by rw[h.inv.tab.len];exact hj
 have hsame:row (p.set j n) (j:Int)=n:=ZaX hpl;have new:∀k,k<=j->∀g,(g=V n\/∃w∈ws,g=V w)->Sp m W (GT W (p.set j n) (st++ws) k) g:=λ k hk g hg=>by
  rcases hg with rfl|⟨w,hw,rfl⟩
  ·exact .gen (.inl ⟨j,hk,hj,by rw[hsame];exact hn.ne,by rw[hsame]⟩)
  ·exact .gen (GT.zb (List.mem_append_right _ hw) λ i hi=>(hws w hw).2 i (by omega))
 have old:∀g,(g=V v\/(row p (j:Int)≠[]/\g=V (row p (j:Int))))->Sp m W (GT W p (st++[v]) 0) g:=λ g hg=>by
  rcases hg with rfl|⟨hr,rfl⟩
  ·exact .gen (GT.zb (List.mem_append_right _ (List.mem_singleton.2 rfl)) λ i hi=>by omega)
  ·exact .gen (.inl ⟨j,Nat.zero_le _,hj,hr,rfl⟩)
 refine h.step (h.inv.tab.set hj hn) (λ s hs=>?_) (λ k g hg=>?_) (λ g hg=>?_) (λ i hi hr e=>?_)
 ·
  rcases List.mem_append.1 hs with hs|hs
  ·exact h.inv.sts s (List.mem_append_left _ hs)
  ·exact(hws s hs).1
 ·
  rcases hg with ⟨i,hk,hi,hr,rfl⟩|⟨s,hs,hk,rfl⟩
  ·
   by_cases e:i=j
   ·subst e;exact(ho hr).mono (new k hk)
   ·exact .gen (.inl ⟨i,hk,hi,by rw[Zbm e];exact hr,by rw[Zbm e]⟩)
  ·
   rcases List.mem_append.1 hs with hs|hs
   ·exact .gen (.inr ⟨s,List.mem_append_left _ hs,hk,rfl⟩)
   ·
    rw[List.mem_singleton]at hs;subst hs;have hkj:k<=j:=by
     by_cases q:k<=j
     ·exact q
     ·exact absurd (hk j (by omega)) hvj
    exact hv.mono (new k hkj)
 ·
  rcases hg with ⟨i,hk,hi,hr,rfl⟩|⟨s,hs,hk,rfl⟩
  ·
   by_cases e:i=j
   ·subst e;rw[hsame];exact(hb _ (.inl rfl)).mono old
   ·rw[Zbm e]at hr ⊢;exact .gen (.inl ⟨i,hk,hi,hr,rfl⟩)
  ·
   rcases List.mem_append.1 hs with hs|hs
   ·exact .gen (.inr ⟨s,List.mem_append_left _ hs,hk,rfl⟩)
   ·exact(hb _ (.inr ⟨s,hs,rfl⟩)).mono old
 ·
  by_cases q:i=j
  ·subst q;rw[hsame];exact hd.mono λ g hg=>by obtain⟨w,hw,rfl⟩:=hg;exact .gen (GT.zb (List.mem_append_right _ hw) (hws w hw).2)
  ·exact absurd (Zbm q) e
end
end Go.Proofs.YtdamfbighdkcbaaGreat.V
set_option maxHeartbeats 4000000
namespace Go.Proofs.YtdamfbighdkcbaaGreat.V
open Go.RowKit Go.Proofs.YtdamfbighdkcbaaGreat.D Go.Proofs.YtdamfbighdkcbaaGreat.P
theorem indexFunc (v:List Int) (hl:v.length<=1000000):(Zb v.length v/\Zk.f v (λ z0=>(ZaJ.f z0).map λ z=>z)=some (-1)) \/
  ∃j:Nat,j<v.length/\Zb j v/\¬ rd v (j:Int)=0/\Zk.f v (λ z0=>(ZaJ.f z0).map λ z=>z)=some (j:Int):=by
 rw[Zk.f_eq];obtain⟨F,hF⟩:∃F:Int->Option Bool,F=λ z0=>(ZaJ.f z0).map λ z=>z:=⟨_,rfl⟩
 rw[<-hF];have hf:∀x,F x=some (!decide (x=0)):=λ x=>by rw[hF];show Option.map _ (ZaJ.f x)=_;rw[ZaJ.f_eq];rfl
 suffices H:∀d k:Nat,k+d=v.length->Zb k v->(Zb v.length v/\Zk.l0 v F (v.length:Int) (k:Int)=some (-1)) \/
   ∃j:Nat,j<v.length/\Zb j v/\¬ rd v (j:Int)=0/\Zk.l0 v F (v.length:Int) (k:Int)=some (j:Int)from
  H v.length 0 (by omega) (λ i hi=>by omega)
 intro d
 induction d with
 | zero =>
  intro k hd hz;obtain rfl:k=v.length:=by omega
  refine .inl ⟨hz,?_⟩
  (rw[Zk.l0_eq])
  ((with_reducible repeat (first|refine go_p ?_|refine go_n ?_|refine go_b ?_|dsimp only));first|done|(with_reducible rfl)|simp (disch:=omega) only[w64])
 | succ d ih =>
  intro k hd hz;have hfk:=hf (rd v (k:Int))
  by_cases h:rd v (k:Int)=0
  ·
   have st:Zk.l0 v F (v.length:Int) (k:Int)=Zk.l0 v F (v.length:Int) ((k+1:Nat):Int):=by
    rw[h]at hfk;rw[Zk.l0_eq,wn (j:=k) (by omega),h]
    (with_reducible repeat (first|refine go_p ?_|refine go_n ?_|refine go_b ?_|dsimp only))
   rw[st];refine ih (k+1) (by omega) λ i hi=>?_
   by_cases e:i=k
   ·rw[e];exact h
   ·exact hz i (by omega)
  ·
   refine .inr ⟨k,by omega,hz,h,?_⟩;rw[Zk.l0_eq]
   (with_reducible repeat (first|refine go_p ?_|refine go_n ?_|refine go_b ?_|dsimp only))
   rw[decide_eq_false h]
   rfl
theorem ZbV (n:Nat) (i:Int):rd (List.replicate n (0:Int)) i=0:=by
 simp only[rd,List.getD_eq_getElem?_getD,List.getElem?_replicate]
 split<;>rfl
theorem ZhG {m:Int} (m0:0<m) (n:Nat):AllIn m (List.replicate n (0:Int)):=λ i _ _=>by rw[ZbV];omega
theorem ZjY {m a b c e:Int} (h:m∣1*a+(-e)*b-c):m∣1*c+e*b-a:=by obtain⟨q,hq⟩:=h;refine⟨-q,?_⟩;rw[Int.mul_neg,<-hq,Int.neg_mul];omega
theorem ZhE {d e:Int} (d0:0<d):Int.tdiv (0-d*e) d = -e:=by
 rw[show 0-d*e=d*(-e)by rw[Int.mul_neg];omega]
 exact Int.mul_tdiv_cancel_left _ (by omega)
theorem Zfx (st:List (List Int)) (v:List Int):row (st++[v]) (st.length:Int)=v:=by simp[row,List.getD_eq_getElem?_getD]
theorem ZeQ (st:List (List Int)) (v:List Int):(st++[v]).take st.length=st:=by simp
theorem Zdv {d e x:Int} (d0:0<d) (h:x=d*e) (x0:0<=x) (x1:x<=12):0<=e/\e<=12:=by
 constructor
 ·
  by_cases q:0<=e
  ·exact q
  ·have:=Int.mul_le_mul_of_nonneg_left (show e <= -1 by omega) (Int.le_of_lt d0);omega
 ·
  by_cases q:e<=12
  ·exact q
  ·have h1:=Int.mul_le_mul_of_nonneg_right (show 1<=d by omega) (show 0<=e by omega);omega
theorem put_top {m:Int} (m2:2<=m) (m12:m<=12) {W:Nat} (hW:W<=100000) {M:Vc->Prop}:∀(n j:Nat) (v:List Int) (p st:List (List Int)),W<=j+n->Zb j v->Pst m W p (st++[v]) M->st.length<=1000000000 ->
  (ZB.l0 m p (st++[v])=ZB.l0 m p st/\Pst m W p st M) \/
  ∃p' ws,ZB.l0 m p (st++[v])=ZB.l0 m p' (st++ws)/\ws.length=3/\Pst m W p' (st++ws) M/\dsum m p' W<dsum m p W:=by
 intro n
 induction n with
 | zero =>
  intro j v p st hj hz h hst;obtain⟨hvl,hva⟩:=h.inv.sts v (List.mem_append_right _ (List.mem_singleton.2 rfl));have e0:(st++[v]).length=st.length+1:=by simp
  have e1:wrapI (((st++[v]).length:Int)-1)=(st.length:Int):=by rw[w64 (by omega) (by omega)];omega
  rcases indexFunc v (by omega)with ⟨hzz,hI⟩|⟨i,hi,hzi,hne,hI⟩
  ·
   rw[hvl]at hzz;refine .inl ⟨?_,h.drop hzz⟩;rw[ZB.l0_eq,e1,Zfx,Int.toNat_natCast,ZeQ]
   ((with_reducible repeat (first|refine go_p ?_|refine go_n ?_|refine go_b ?_|dsimp only));first|done|(with_reducible rfl)|simp (disch:=omega) only[w64])
  ·exact absurd (hz i (by omega)) hne
 | succ n ih =>
  intro j v p st hj hz h hst;obtain⟨hvl,hva⟩:=h.inv.sts v (List.mem_append_right _ (List.mem_singleton.2 rfl));have e0:(st++[v]).length=st.length+1:=by simp
  have e1:wrapI (((st++[v]).length:Int)-1)=(st.length:Int):=by rw[w64 (by omega) (by omega)];omega
  rcases indexFunc v (by omega)with ⟨hzz,hI⟩|⟨i,hi,hzi,hne,hI⟩
  ·
   rw[hvl]at hzz;refine .inl ⟨?_,h.drop hzz⟩;rw[ZB.l0_eq,e1,Zfx,Int.toNat_natCast,ZeQ]
   ((with_reducible repeat (first|refine go_p ?_|refine go_n ?_|refine go_b ?_|dsimp only));first|done|(with_reducible rfl)|simp (disch:=omega) only[w64])
  have hij:j<=i:=by
   by_cases q:j<=i
   ·exact q
   ·exact absurd (hz i (by omega)) hne
  have hpl:=h.inv.tab.len;have hiW:i<W:=by omega
  obtain⟨v0,v1⟩:=hva i (by omega) (by omega);have swap:∀o:List Int,(row p (i:Int)=[]/\o=List.replicate v.length 0\/row p (i:Int)≠[]/\o=row p (i:Int))->(¬ rd o (i:Int)=0->¬ Int.tmod (rd v (i:Int)) (rd o (i:Int))=0) ->
    ∃p' ws,ZB.j1 v i o m p st=ZB.l0 m p' (st++ws)/\ws.length=3/\Pst m W p' (st++ws) M/\dsum m p' W<dsum m p W:=by
   intro o ho hnd;have ol:o.length=W:=by
    rcases ho with ⟨_,rfl⟩|⟨hr,rfl⟩
    ·rw[List.length_replicate];exact hvl
    ·exact(h.inv.tab.prow hiW hr).len
   have oa:AllIn m o:=by
    rcases ho with ⟨_,rfl⟩|⟨hr,rfl⟩
    ·exact ZhG (by omega) _
    ·exact(h.inv.tab.prow hiW hr).ent
   have oz:Zb i o:=by
    rcases ho with ⟨_,rfl⟩|⟨hr,rfl⟩
    ·exact λ k _=>ZbV _ _
    ·exact(h.inv.tab.prow hiW hr).zero
   obtain⟨o0,o1⟩:=oa i (by omega) (by omega);obtain⟨x,y,hbz,hx,hy,hxy⟩:=bezout m2 m12 (p:=p) (a:=rd o (i:Int)) (b:=rd v (i:Int)) o0 (by omega) v0 (by omega);have dm:((Int.gcd ((Int.gcd (rd o (i:Int)) (rd v (i:Int)):Nat):Int) m:Nat):Int)∣m:=Int.gcd_dvd_right ..;have dg:((Int.gcd ((Int.gcd (rd o (i:Int)) (rd v (i:Int)):Nat):Int) m:Nat):Int)∣((Int.gcd (rd o (i:Int)) (rd v (i:Int)):Nat):Int):=Int.gcd_dvd_left ..;have dO:=Int.dvd_trans dg (Int.gcd_dvd_left (a:=rd o (i:Int)) (b:=rd v (i:Int)));have dV:=Int.dvd_trans dg (Int.gcd_dvd_right (a:=rd o (i:Int)) (b:=rd v (i:Int)));have d0:0<((Int.gcd ((Int.gcd (rd o (i:Int)) (rd v (i:Int)):Nat):Int) m:Nat):Int):=by have:0<Int.gcd ((Int.gcd (rd o (i:Int)) (rd v (i:Int)):Nat):Int) m:=Int.gcd_pos_of_ne_zero_right _ (by omega);omega
   generalize ((Int.gcd ((Int.gcd (rd o (i:Int)) (rd v (i:Int)):Nat):Int) m:Nat):Int)=d at hbz hxy dm dO dV d0
   clear dg
   have dv1:d<=rd v (i:Int):=Int.le_of_dvd (by omega) dV;obtain⟨eo,heo⟩:=dO;obtain⟨ev,hev⟩:=dV;obtain⟨eo0,eo1⟩:=Zdv d0 heo o0 (by omega);obtain⟨ev0,ev1⟩:=Zdv d0 hev v0 (by omega);obtain⟨md,hmd⟩:=dm;obtain⟨md0,md1⟩:=Zdv d0 hmd (by omega) m12;have hmdd:Int.tdiv m d=md:=by rw[hmd];exact Int.mul_tdiv_cancel_left _ (by omega)
   have hmde:m / d=md:=by rw[hmd];exact Int.mul_ediv_cancel_left _ (by omega)
   have c1:=combined m2 m12 (p:=p) (x:=x) (y:=y) oa hva (by omega) (by omega) (by omega) (by omega) (by omega) (by omega);obtain⟨nx,hnx⟩:∃nx,nx=mix m x o y v:=⟨_,rfl⟩
   have nl:nx.length=W:=by rw[hnx,Zbl,ol]
   have na:AllIn m nx:=by rw[hnx];exact Zcp (by omega)
   have nz:Zb i nx:=λ k hk=>by rw[hnx,ZbT (by omega),oz k hk,hzi k hk];simp
   have nd:rd nx (i:Int)=d:=by
    rw[hnx,ZbT (by omega)];have:(x*rd o (i:Int)+y*rd v (i:Int))%m=d%m:=by obtain⟨q,hq⟩:=hxy;rw[show x*rd o (i:Int)+y*rd v (i:Int)=d+m*q by omega,Int.add_mul_emod_self_left]
    rw[this,Int.emod_eq_of_lt (by omega) (by omega)]
   have nP:PRow m W i nx:=⟨nl,na,nz,by omega,by omega,by rw[nd];exact⟨md,hmd⟩⟩
   rw[<-hnx]at c1;have c2:=combined m2 m12 (p:=p.set i nx) (x:=1) (y:=-eo) oa na (by omega) (by omega) (by omega) (by omega) (by omega) (by omega);have c3:=combined m2 m12 (p:=p.set i nx) (x:=1) (y:=-ev) hva na (by omega) (by omega) (by omega) (by omega) (by omega) (by omega);have c4:=combined m2 m12 (p:=p.set i nx) (x:=md) (y:=0) na na rfl (by omega) (by omega) (by omega) (by omega) (by omega);have f1:wrapI ((wrapI (0-rd o (i:Int))).tdiv d) = -eo:=by rw[w64 (x:=0-rd o (i:Int)) (by omega) (by omega),heo,ZhE d0,w64 (by omega) (by omega)]
   have f2:wrapI ((wrapI (0-rd v (i:Int))).tdiv d) = -ev:=by rw[w64 (x:=0-rd v (i:Int)) (by omega) (by omega),hev,ZhE d0,w64 (by omega) (by omega)]
   have f3:wrapI (Int.tdiv m d)=md:=by rw[hmdd];exact w64 (by omega) (by omega)
   have l3:∀a b c:List Int,([a,b,c]:List (List Int)).length=3:=λ _ _ _=>rfl
   have hset:(p.set i nx).length=W:=by rw[List.length_set];exact hpl
   refine⟨p.set i nx,[mix m 1 o (-eo) nx,mix m 1 v (-ev) nx,mix m md nx 0 nx],?_,rfl,?_,?_⟩
   ·
    rw[ZB.j1_eq]
    by_cases q:rd o (i:Int)=0
    ·
     (with_reducible repeat (first|refine go_p ?_|refine go_n ?_|refine go_b ?_|dsimp only))
     rw[Int.toNat_natCast,f1]
     (with_reducible repeat (first|refine go_p ?_|refine go_n ?_|refine go_b ?_|dsimp only))
     rw[f2]
     (with_reducible repeat (first|refine go_p ?_|refine go_n ?_|refine go_b ?_|dsimp only))
     rw[f3]
     (with_reducible repeat (first|refine go_p ?_|refine go_n ?_|refine go_b ?_|dsimp only))
     rw[l3]
     (with_reducible repeat (first|refine go_p ?_|refine go_n ?_|refine go_b ?_|dsimp only))
    ·
     have q2:=hnd q
     (with_reducible repeat (first|refine go_p ?_|refine go_n ?_|refine go_b ?_|dsimp only))
     rw[Int.toNat_natCast,f1]
     (with_reducible repeat (first|refine go_p ?_|refine go_n ?_|refine go_b ?_|dsimp only))
     rw[f2]
     (with_reducible repeat (first|refine go_p ?_|refine go_n ?_|refine go_b ?_|dsimp only))
     rw[f3]
     (with_reducible repeat (first|refine go_p ?_|refine go_n ?_|refine go_b ?_|dsimp only))
     rw[l3]
     (with_reducible repeat (first|refine go_p ?_|refine go_n ?_|refine go_b ?_|dsimp only))
   ·
    have g0:∀k:Nat,k<W->m∣1*rd o (k:Int)+(-eo)*rd nx (k:Int)-rd (mix m 1 o (-eo) nx) (k:Int):=λ k hk=>Zb1 (by omega)
    have g1:∀k:Nat,k<W->m∣1*rd v (k:Int)+(-ev)*rd nx (k:Int)-rd (mix m 1 v (-ev) nx) (k:Int):=λ k hk=>Zb1 (by omega)
    have g2:∀k:Nat,k<W->m∣md*rd nx (k:Int)+0*rd nx (k:Int)-rd (mix m md nx 0 nx) (k:Int):=λ k hk=>Zb1 (by omega)
    have zb:∀(a b:Int) (r:List Int),r.length=W->Zb i r->a*rd r (i:Int)+b*d=0\/a*rd r (i:Int)+b*d=m->Zb (i+1) (mix m a r b nx):=λ a b r hr hz hab k hk=>by
     rw[ZbT (by omega)]
     by_cases e:k=i
     ·
      subst e;rw[nd];rcases hab with hab|hab<;>rw[hab]
      ·exact Int.zero_emod m
      ·exact Int.emod_self
     ·rw[hz k (by omega),nz k (by omega)];simp
    refine h.swap hiW hne nP (λ w hw=>?_) (λ hr=>?_) ?_ ?_ ?_
    ·
     simp only[List.mem_cons,List.not_mem_nil,or_false]at hw;rcases hw with rfl|rfl|rfl
     ·exact⟨⟨by rw[Zbl];exact ol,Zcp (by omega)⟩,zb 1 (-eo) o ol oz (.inl (by rw[heo,Int.neg_mul,Int.mul_comm eo d];omega))⟩
     ·exact⟨⟨by rw[Zbl];exact hvl,Zcp (by omega)⟩,zb 1 (-ev) v hvl hzi (.inl (by rw[hev,Int.neg_mul,Int.mul_comm ev d];omega))⟩
     ·exact⟨⟨by rw[Zbl];exact nl,Zcp (by omega)⟩,zb md 0 nx nl nz (.inr (by rw[nd,hmd,Int.mul_comm md d];omega))⟩
    ·
     have ho' : o=row p (i:Int):=by
      rcases ho with ⟨e,_⟩|⟨_,e⟩
      ·exact absurd e hr
      ·exact e
     rw[<-ho'];exact Sp.two (a:=1) (b:=eo) (x:=V (mix m 1 o (-eo) nx)) (y:=V nx) (.gen (.inr ⟨_,List.mem_cons_self ..,rfl⟩)) (.gen (.inl rfl)) λ k hk=>ZjY (g0 k hk)
    ·exact Sp.two (a:=1) (b:=ev) (x:=V (mix m 1 v (-ev) nx)) (y:=V nx) (.gen (.inr ⟨_,List.mem_cons_of_mem _ (List.mem_cons_self ..),rfl⟩)) (.gen (.inl rfl)) λ k hk=>ZjY (g1 k hk)
    ·
     refine .alike (.gen ⟨_,List.mem_cons_of_mem _ (List.mem_cons_of_mem _ (List.mem_cons_self ..)),rfl⟩) λ k hk=>?_
     obtain⟨q,hq⟩:=g2 k hk;refine⟨-q,?_⟩;rw[nd,hmde,Int.mul_neg,<-hq];show rd (mix m md nx 0 nx) (k:Int)-md*rd nx (k:Int)=_;omega
    ·
     have hov:∀G:Vc->Prop,(row p (i:Int)≠[]->G (V (row p (i:Int))))->Sp m W G (V o):=λ G hG=>by
      rcases ho with ⟨_,rfl⟩|⟨hr,rfl⟩
      ·exact .alike .nil λ k hk=>by show m∣0-rd (List.replicate v.length (0:Int)) (k:Int);rw[ZbV];exact⟨0,by omega⟩
      ·exact .gen (hG hr)
     have ho2:=hov (λ g=>g=V v\/(row p (i:Int)≠[]/\g=V (row p (i:Int)))) λ hr=>.inr ⟨hr,rfl⟩
     have hn2:Sp m W (λ g=>g=V v\/(row p (i:Int)≠[]/\g=V (row p (i:Int)))) (V nx):=Sp.two (a:=x) (b:=y) (x:=V o) (y:=V v) ho2 (.gen (.inl rfl)) λ k hk=>by have:m∣x*rd o (k:Int)+y*rd v (k:Int)-rd (mix m x o y v) (k:Int):=Zb1 (by omega);rwa[<-hnx]at this
     intro g hg;rcases hg with rfl|⟨w,hw,rfl⟩
     ·exact hn2
     simp only[List.mem_cons,List.not_mem_nil,or_false]at hw;rcases hw with rfl|rfl|rfl
     ·exact Sp.two (a:=1) (b:=-eo) ho2 hn2 λ k hk=>g0 k hk
     ·exact Sp.two (a:=1) (b:=-ev) (x:=V v) (.gen (.inl rfl)) hn2 λ k hk=>g1 k hk
     ·exact Sp.two (a:=md) (b:=0) hn2 hn2 λ k hk=>g2 k hk
   ·
    rw[Zg8 hpl hiW,if_pos hiW,Zen hpl hiW nP.ne,nd];unfold dv;rcases ho with ⟨e,_⟩|⟨hr,e⟩
    ·rw[if_pos e];omega
    ·
     rw[if_neg hr,<-e];have hO:=(h.inv.tab.prow hiW hr).pos;rw[<-e]at hO;have q2:=hnd (by omega);have:d<=rd o (i:Int):=Int.le_of_dvd hO ⟨eo,heo⟩
     by_cases q:d=rd o (i:Int)
     ·exact absurd (ZcG.2 ⟨ev,by rw[<-q];exact hev⟩) q2
     ·omega
  have start:∀o:List Int,(row p (i:Int)=[]/\o=List.replicate v.length 0\/row p (i:Int)≠[]/\o=row p (i:Int))->ZB.l0 m p (st++[v])=ZB.j1 v i o m p st:=by
   intro o ho;rw[ZB.l0_eq,e1,Zfx,Int.toNat_natCast,ZeQ,Int.toNat_natCast];rcases ho with ⟨e,rfl⟩|⟨hr,rfl⟩
   ·
    have e' : (row p (i:Int)).length=0:=by rw[e];rfl
    ((with_reducible repeat (first|refine go_p ?_|refine go_n ?_|refine go_b ?_|dsimp only));first|done|(with_reducible rfl)|simp (disch:=omega) only[w64])
   ·
    have e' : 0<(row p (i:Int)).length:=List.length_pos_iff.2 hr
    ((with_reducible repeat (first|refine go_p ?_|refine go_n ?_|refine go_b ?_|dsimp only));first|done|(with_reducible rfl)|simp (disch:=omega) only[w64])
  by_cases hr:row p (i:Int)=[]
  ·have hs:=start _ (.inl ⟨hr,rfl⟩);obtain⟨p', ws,k1,k2,k3,k4⟩:=swap _ (.inl ⟨hr,rfl⟩) (λ q=>absurd (ZbV _ _) q);exact .inr ⟨p', ws,hs.trans k1,k2,k3,k4⟩
  have hs:=start _ (.inr ⟨hr,rfl⟩)
  by_cases hd:Int.tmod (rd v (i:Int)) (rd (row p (i:Int)) (i:Int))=0
  rotate_left
  ·obtain⟨p', ws,k1,k2,k3,k4⟩:=swap _ (.inr ⟨hr,rfl⟩) (λ _=>hd);exact .inr ⟨p', ws,hs.trans k1,k2,k3,k4⟩
  have hP:=h.inv.tab.prow hiW hr;have pl:=hP.len;have p0:=hP.pos;have p1:=hP.lt;obtain⟨e,he⟩:=ZcG.1 hd;obtain⟨ee0,ee1⟩:=Zdv p0 he v0 (by omega);have c1:=combined m2 m12 (p:=p) (x:=1) (y:=-e) hva hP.ent (by omega) (by omega) (by omega) (by omega) (by omega) (by omega);have f1:wrapI ((wrapI (0-rd v (i:Int))).tdiv (rd (row p (i:Int)) (i:Int))) = -e:=by rw[w64 (x:=0-rd v (i:Int)) (by omega) (by omega),he,ZhE p0,w64 (by omega) (by omega)]
  have hpne:¬ rd (row p (i:Int)) (i:Int)=0:=by omega
  have l1:∀a:List Int,([a]:List (List Int)).length=1:=λ _=>rfl
  have hstep:ZB.j1 v i (row p (i:Int)) m p st=ZB.l0 m p (st++[mix m 1 v (-e) (row p (i:Int))]):=by
   rw[ZB.j1_eq,f1]
   (with_reducible repeat (first|refine go_p ?_|refine go_n ?_|refine go_b ?_|dsimp only))
   rw[l1]
   ((with_reducible repeat (first|refine go_p ?_|refine go_n ?_|refine go_b ?_|dsimp only));first|done|(with_reducible rfl)|simp (disch:=omega) only[w64])
  have wl:(mix m 1 v (-e) (row p (i:Int))).length=W:=by rw[Zbl];exact hvl
  have wz:Zb (i+1) (mix m 1 v (-e) (row p (i:Int))):=λ k hk=>by
   rw[ZbT (by omega)]
   by_cases q:k=i
   ·subst q;rw[he,show 1*(rd (row p (k:Int)) (k:Int)*e) + -e*rd (row p (k:Int)) (k:Int)=0 by rw[Int.neg_mul,Int.mul_comm e];omega];exact Int.zero_emod m
   ·rw[hzi k (by omega),hP.zero k (by omega)];simp
  have h':=h.less (c:=e) hiW hr hne ⟨wl,Zcp (by omega)⟩ (λ k hk=>wz k (by omega)) λ k hk=>Zb1 (by omega)
  rcases ih (i+1) _ p st (by omega) wz h' hst with ⟨k1,k2⟩|⟨p', ws,k1,k2,k3,k4⟩
  ·exact .inl ⟨(hs.trans hstep).trans k1,k2⟩
  ·exact .inr ⟨p', ws,(hs.trans hstep).trans k1,k2,k3,k4⟩
theorem put_ {m:Int} (m2:2<=m) (m12:m<=12) {W:Nat} (hW:W<=100000) {M:Vc->Prop} {p:List (List Int)} {r:List Int} (h:Pst m W p [r] M):∃p', ZB.f m p r=some (m,p')/\Pst m W p' [] M:=by
 rw[ZB.f_eq];have key:∀(D:Nat) (k:Nat) (p st:List (List Int)),st.length=k->dsum m p W<=D->(st.length:Int)+3*dsum m p W<=100000000->Pst m W p st M->∃p', ZB.l0 m p st=some (m,p')/\Pst m W p' [] M:=by
  intro D
  induction D with
  | zero =>
   intro k
   induction k with
   | zero =>
    intro p st hl _ _ h;obtain rfl:=List.length_eq_zero_iff.1 hl;refine⟨p,?_,h⟩;rw[ZB.l0_eq]
    ((with_reducible repeat (first|refine go_p ?_|refine go_n ?_|refine go_b ?_|dsimp only));first|done|(with_reducible rfl)|simp (disch:=omega) only[w64])
   | succ k ih =>
    intro p st hl hD hK h;obtain⟨st', v,rfl⟩:∃st' v,st=st' ++ [v]:=⟨st.dropLast,st.getLast (λ e=>by rw[e]at hl;simp at hl),(List.dropLast_concat_getLast _).symm⟩
    have e0:(st' ++ [v]).length=st'.length+1:=by simp
    obtain⟨s0,_⟩:=Zdm (show 0<m by omega) h.inv.tab W (Nat.le_refl _);rcases put_top m2 m12 hW W 0 v p st' (by omega) (λ i hi=>by omega) h (by omega)with ⟨k1,k2⟩|⟨p', ws,k1,k2,k3,k4⟩
    ·rw[k1];exact ih p st' (by omega) hD (by omega) k2
    ·obtain⟨s1,_⟩:=Zdm (show 0<m by omega) k3.inv.tab W (Nat.le_refl _);omega
  | succ D ihD =>
   intro k
   induction k with
   | zero =>
    intro p st hl _ _ h;obtain rfl:=List.length_eq_zero_iff.1 hl;refine⟨p,?_,h⟩;rw[ZB.l0_eq]
    ((with_reducible repeat (first|refine go_p ?_|refine go_n ?_|refine go_b ?_|dsimp only));first|done|(with_reducible rfl)|simp (disch:=omega) only[w64])
   | succ k ih =>
    intro p st hl hD hK h;obtain⟨st', v,rfl⟩:∃st' v,st=st' ++ [v]:=⟨st.dropLast,st.getLast (λ e=>by rw[e]at hl;simp at hl),(List.dropLast_concat_getLast _).symm⟩
    have e0:(st' ++ [v]).length=st'.length+1:=by simp
    obtain⟨s0,_⟩:=Zdm (show 0<m by omega) h.inv.tab W (Nat.le_refl _);rcases put_top m2 m12 hW W 0 v p st' (by omega) (λ i hi=>by omega) h (by omega)with ⟨k1,k2⟩|⟨p', ws,k1,k2,k3,k4⟩
    ·rw[k1];exact ih p st' (by omega) hD (by omega) k2
    ·
     rw[k1];have e1:(st' ++ ws).length=st'.length+3:=by rw[List.length_append,k2]
     exact ihD _ p' (st' ++ ws) rfl (by omega) (by omega) k3
 obtain⟨s0,s1⟩:=Zdm (show 0<m by omega) h.inv.tab W (Nat.le_refl _);have hb:m*(W:Int)<=12*100000:=Int.mul_le_mul (by omega) (by omega) (by omega) (by omega);exact key (dsum m p W).toNat 1 p [r] rfl (by omega) (by show(1:Int)+_<=_;omega) h
theorem Zoc {m:Int} (m2:2<=m) (m12:m<=12) {W:Nat} (hW:W<=100000) {M:Vc->Prop}:∀(n j:Nat) (v:List Int) (p st:List (List Int)),j+n=W->Zb j v->Pst m W p (st++[v]) M->(st.length:Int)+dsum m p W<=1000000000 ->
  ∃p' ws,ZE.l1 m v j p st=ZE.l0 m p' (st++ws)/\Pst m W p' (st++ws) M/\(p'=p/\ws=[]\/dsum m p' W<dsum m p W)/\(ws.length:Int)+dsum m p' W<=dsum m p W:=by
 intro n
 induction n with
 | zero =>
  intro j v p st hj hz h hst;obtain⟨hvl,hva⟩:=h.inv.sts v (List.mem_append_right _ (List.mem_singleton.2 rfl));refine⟨p,[],?_,?_,.inl ⟨rfl,rfl⟩,by simp⟩
  ·
   rw[ZE.l1_eq,List.append_nil]
   ((with_reducible repeat (first|refine go_p ?_|refine go_n ?_|refine go_b ?_|dsimp only));first|done|(with_reducible rfl)|simp (disch:=omega) only[w64])
  ·
   rw[List.append_nil];obtain rfl:j=W:=by omega
   exact h.drop hz
 | succ n ih =>
  intro j v p st hj hz h hst;obtain⟨hvl,hva⟩:=h.inv.sts v (List.mem_append_right _ (List.mem_singleton.2 rfl));have hpl:=h.inv.tab.len;have hjW:j<W:=by omega
  obtain⟨v0,v1⟩:=hva j (by omega) (by omega);obtain⟨s0,s1⟩:=Zdm (show 0<m by omega) h.inv.tab W (Nat.le_refl _)
  by_cases hne:rd v (j:Int)=0
  ·
   obtain⟨p', ws,k1,k2,k3,k4⟩:=ih (j+1) v p st (by omega) (λ i hi=>by
    by_cases e:i=j
    ·rw[e];exact hne
    ·exact hz i (by omega)) h hst
   refine⟨p', ws,?_,k2,k3,k4⟩;rw[<-k1,ZE.l1_eq,wn (j:=j) (by omega)]
   ((with_reducible repeat (first|refine go_p ?_|refine go_n ?_|refine go_b ?_|dsimp only));first|done|(with_reducible rfl)|simp (disch:=omega) only[w64])
  have l1:∀a:List Int,([a]:List (List Int)).length=1:=λ _=>rfl
  by_cases hr:row p (j:Int)=[]
  ·
   have e' : ((row p (j:Int)).length:Int)=0:=by rw[hr];rfl
   obtain⟨u,hu,hug,hud,hU⟩:=Unit_ m2 m12 hva (by omega) (by omega) hne;obtain⟨ui,hui⟩:=ZhF m2 m12 (by omega) hu.2 hug;have dm:((Int.gcd (rd v (j:Int)) m:Nat):Int)∣m:=Int.gcd_dvd_right ..;have dV:((Int.gcd (rd v (j:Int)) m:Nat):Int)∣rd v (j:Int):=Int.gcd_dvd_left ..;have d0:0<((Int.gcd (rd v (j:Int)) m:Nat):Int):=by have:0<Int.gcd (rd v (j:Int)) m:=Int.gcd_pos_of_ne_zero_left _ hne;omega
   generalize ((Int.gcd (rd v (j:Int)) m:Nat):Int)=d at hud dm dV d0
   have dv1:d<=rd v (j:Int):=Int.le_of_dvd (by omega) dV;obtain⟨md,hmd⟩:=dm;obtain⟨md0,md1⟩:=Zdv d0 hmd (by omega) m12;have hmde:m / d=md:=by rw[hmd];exact Int.mul_ediv_cancel_left _ (by omega)
   obtain⟨nx,hnx⟩:∃nx,nx=mix m u v 0 v:=⟨_,rfl⟩
   have nl:nx.length=W:=by rw[hnx,Zbl,hvl]
   have na:AllIn m nx:=by rw[hnx];exact Zcp (by omega)
   have nz:Zb j nx:=λ k hk=>by rw[hnx,ZbT (by omega),hz k hk];simp
   have nd:rd nx (j:Int)=d:=by
    rw[hnx,ZbT (by omega)];have:(u*rd v (j:Int)+0*rd v (j:Int))%m=d%m:=by obtain⟨q,hq⟩:=hud;rw[show u*rd v (j:Int)+0*rd v (j:Int)=d+m*q by omega,Int.add_mul_emod_self_left]
    rw[this,Int.emod_eq_of_lt (by omega) (by omega)]
   have nP:PRow m W j nx:=⟨nl,na,nz,by omega,by omega,by rw[nd];exact⟨md,hmd⟩⟩
   rw[<-hnx]at hU;have hsame:row (p.set j nx) (j:Int)=nx:=ZaX (by omega);have hT:T (p.set j nx) (j:Int) (j:Int)=d:=by show rd (row (p.set j nx) (j:Int)) (j:Int)=d;rw[hsame];exact nd
   have hset:(p.set j nx).length=W:=by rw[List.length_set];exact hpl
   have f3:wrapI (Int.tdiv m d)=md:=by rw[hmd,Int.mul_tdiv_cancel_left _ (by omega)];exact w64 (by omega) (by omega)
   have c4:=Mix_ m2 m12 (x:=md) (y:=0) na hva (by omega) (by omega) (by omega) (by omega) (by omega) (by omega);have g0:∀k:Nat,k<W->m∣u*rd v (k:Int)+0*rd v (k:Int)-rd nx (k:Int):=λ k hk=>by rw[hnx];exact Zb1 (by omega)
   have g2:∀k:Nat,k<W->m∣md*rd nx (k:Int)+0*rd v (k:Int)-rd (mix m md nx 0 v) (k:Int):=λ k hk=>Zb1 (by omega)
   have wz:Zb (j+1) (mix m md nx 0 v):=λ k hk=>by
    rw[ZbT (by omega)]
    by_cases e:k=j
    ·subst e;rw[nd,show md*d+0*rd v (k:Int)=m by rw[hmd,Int.mul_comm md d];omega];exact Int.emod_self
    ·rw[nz k (by omega)];simp
   have hdm:dsum m (p.set j nx) W+1<=dsum m p W:=by rw[Zg8 hpl hjW,if_pos hjW,Zen hpl hjW nP.ne,nd];unfold dv;rw[if_pos hr];omega
   refine⟨p.set j nx,[mix m md nx 0 v],?_,?_,.inr (by omega),by rw[l1];omega⟩
   ·
    rw[ZE.l1_eq,Int.toNat_natCast]
    (with_reducible repeat (first|refine go_p ?_|refine go_n ?_|refine go_b ?_|dsimp only))
    rw[hT]
    (with_reducible repeat (first|refine go_p ?_|refine go_n ?_|refine go_b ?_|dsimp only))
    rw[hsame,f3]
    (with_reducible repeat (first|refine go_p ?_|refine go_n ?_|refine go_b ?_|dsimp only))
    rw[l1]
    ((with_reducible repeat (first|refine go_p ?_|refine go_n ?_|refine go_b ?_|dsimp only));first|done|(with_reducible rfl)|simp (disch:=omega) only[w64])
   ·
    refine h.swap hjW hne nP (λ w hw=>?_) (λ q=>absurd hr q) ?_ ?_ ?_
    ·rw[List.mem_singleton]at hw;subst hw;exact⟨⟨by rw[Zbl];exact nl,Zcp (by omega)⟩,wz⟩
    ·
     refine Sp.two (a:=ui) (b:=0) (x:=V nx) (y:=V nx) (.gen (.inl rfl)) (.gen (.inl rfl)) λ k hk=>?_
     obtain⟨q,hq⟩:=g0 k hk;obtain⟨t,ht⟩:=hui;refine⟨t*rd v (k:Int)-ui*q,?_⟩;show ui*rd nx (k:Int)+0*rd nx (k:Int)-rd v (k:Int)=_;have e1:rd nx (k:Int)=u*rd v (k:Int)-m*q:=by omega
     have e2:ui*(u*rd v (k:Int))=m*(t*rd v (k:Int))+rd v (k:Int):=by rw[<-Int.mul_assoc,Int.mul_comm ui u,show u*ui=m*t+1 by omega,Int.add_mul,Int.mul_assoc];omega
     have e3:ui*(m*q)=m*(ui*q):=by rw[<-Int.mul_assoc,Int.mul_comm ui m,Int.mul_assoc]
     rw[e1,Int.zero_mul,Int.mul_sub,Int.mul_sub,e2,e3];omega
    ·
     refine .alike (.gen ⟨_,List.mem_singleton.2 rfl,rfl⟩) λ k hk=>?_
     obtain⟨q,hq⟩:=g2 k hk;refine⟨-q,?_⟩;rw[nd,hmde,Int.mul_neg,<-hq];show rd (mix m md nx 0 v) (k:Int)-md*rd nx (k:Int)=_;omega
    ·
     have hn2:Sp m W (λ g=>g=V v\/(row p (j:Int)≠[]/\g=V (row p (j:Int)))) (V nx):=Sp.two (a:=u) (b:=0) (x:=V v) (y:=V v) (.gen (.inl rfl)) (.gen (.inl rfl)) λ k hk=>g0 k hk
     intro g hg;rcases hg with rfl|⟨w,hw,rfl⟩
     ·exact hn2
     rw[List.mem_singleton]at hw;subst hw;exact Sp.two (a:=md) (b:=0) (x:=V nx) (y:=V v) hn2 (.gen (.inl rfl)) λ k hk=>g2 k hk
  have e' : ¬ ((row p (j:Int)).length:Int)=0:=by have:=List.length_pos_iff.2 hr;omega
  have hP:=h.inv.tab.prow hjW hr;have pl:=hP.len;have p0:=hP.pos;have p1:=hP.lt;have hT:T p (j:Int) (j:Int)=rd (row p (j:Int)) (j:Int):=rfl;have hpne:¬ rd (row p (j:Int)) (j:Int)=0:=by omega
  by_cases hd:Int.tmod (rd v (j:Int)) (rd (row p (j:Int)) (j:Int))=0
  ·
   obtain⟨e,he⟩:=ZcG.1 hd;obtain⟨ee0,ee1⟩:=Zdv p0 he v0 (by omega);have c1:=Mix_ m2 m12 (x:=1) (y:=-e) hva hP.ent (by omega) (by omega) (by omega) (by omega) (by omega) (by omega);have f1:wrapI (0-wrapI ((rd v (j:Int)).tdiv (rd (row p (j:Int)) (j:Int)))) = -e:=by rw[he,Int.mul_tdiv_cancel_left _ (by omega),w64 (x:=e) (by omega) (by omega),w64 (by omega) (by omega)];omega
   have wl:(mix m 1 v (-e) (row p (j:Int))).length=W:=by rw[Zbl];exact hvl
   have wz:Zb (j+1) (mix m 1 v (-e) (row p (j:Int))):=λ k hk=>by
    rw[ZbT (by omega)]
    by_cases q:k=j
    ·subst q;rw[he,show 1*(rd (row p (k:Int)) (k:Int)*e) + -e*rd (row p (k:Int)) (k:Int)=0 by rw[Int.neg_mul,Int.mul_comm e];omega];exact Int.zero_emod m
    ·rw[hz k (by omega),hP.zero k (by omega)];simp
   have h':=h.less (c:=e) hjW hr hne ⟨wl,Zcp (by omega)⟩ (λ k hk=>wz k (by omega)) λ k hk=>Zb1 (by omega)
   obtain⟨p', ws,k1,k2,k3,k4⟩:=ih (j+1) _ p st (by omega) wz h' hst;refine⟨p', ws,?_,k2,k3,k4⟩;rw[<-k1,ZE.l1_eq,wn (j:=j) (by omega),hT,f1]
   ((with_reducible repeat (first|refine go_p ?_|refine go_n ?_|refine go_b ?_|dsimp only));first|done|(with_reducible rfl)|simp (disch:=omega) only[w64])
  obtain⟨o,ho⟩:∃o,o=row p (j:Int):=⟨_,rfl⟩
  obtain⟨s,t,hbz,hst', hs,ht⟩:=ZiA (a:=rd o (j:Int)) (b:=rd v (j:Int)) (by rw[ho];omega) (by rw[ho];omega) v0 (by omega)
  have dO:((Int.gcd (rd o (j:Int)) (rd v (j:Int)):Nat):Int)∣rd o (j:Int):=Int.gcd_dvd_left ..;have dV:((Int.gcd (rd o (j:Int)) (rd v (j:Int)):Nat):Int)∣rd v (j:Int):=Int.gcd_dvd_right ..;have d0:0<((Int.gcd (rd o (j:Int)) (rd v (j:Int)):Nat):Int):=by have:0<Int.gcd (rd o (j:Int)) (rd v (j:Int)):=Int.gcd_pos_of_ne_zero_right _ hne;omega
  generalize ((Int.gcd (rd o (j:Int)) (rd v (j:Int)):Nat):Int)=d at hbz hst' dO dV d0
  rw[<-ho]at hP pl p0 p1 hT hpne hd;have dv1:d<=rd v (j:Int):=Int.le_of_dvd (by omega) dV;have dm:d∣m:=Int.dvd_trans dO hP.dvd;obtain⟨eo,heo⟩:=dO;obtain⟨ev,hev⟩:=dV;obtain⟨eo0,eo1⟩:=Zdv d0 heo (by omega) (by omega);obtain⟨ev0,ev1⟩:=Zdv d0 hev v0 (by omega);obtain⟨md,hmd⟩:=dm;obtain⟨md0,md1⟩:=Zdv d0 hmd (by omega) m12;have hmde:m / d=md:=by rw[hmd];exact Int.mul_ediv_cancel_left _ (by omega)
  have hunit:s*eo+t*ev=1:=by
   have h1:d*(s*eo+t*ev)=d*1:=by rw[Int.mul_add,Int.mul_one,<-Int.mul_assoc,<-Int.mul_assoc,Int.mul_comm d s,Int.mul_comm d t,Int.mul_assoc,Int.mul_assoc,<-heo,<-hev];exact hst'
   exact Int.eq_of_mul_eq_mul_left (by omega) h1
  obtain⟨nx,hnx⟩:∃nx,nx=mix m s o t v:=⟨_,rfl⟩
  obtain⟨ny,hny⟩:∃ny,ny=mix m ev o (-eo) v:=⟨_,rfl⟩
  have oz:Zb j o:=hP.zero;have c1:=Mix_ m2 m12 (x:=ev) (y:=-eo) hP.ent hva (by omega) (by omega) (by omega) (by omega) (by omega) (by omega);have c2:=Mix_ m2 m12 (x:=s) (y:=t) hP.ent hva (by omega) (by omega) hs.1 hs.2 ht.1 ht.2;rw[<-hny]at c1;rw[<-hnx]at c2;have nl:nx.length=W:=by rw[hnx,Zbl,pl]
  have yl:ny.length=W:=by rw[hny,Zbl,pl]
  have na:AllIn m nx:=by rw[hnx];exact Zcp (by omega)
  have ya:AllIn m ny:=by rw[hny];exact Zcp (by omega)
  have nz:Zb j nx:=λ k hk=>by rw[hnx,ZbT (by omega),oz k hk,hz k hk];simp
  have nd:rd nx (j:Int)=d:=by rw[hnx,ZbT (by omega),hst', Int.emod_eq_of_lt (by omega) (by omega)]
  have yz:Zb (j+1) ny:=λ k hk=>by
   rw[hny,ZbT (by omega)]
   by_cases q:k=j
   ·subst q;rw[heo,hev,show ev*(d*eo) + -eo*(d*ev)=0 by rw[Int.neg_mul,<-Int.mul_assoc,<-Int.mul_assoc,Int.mul_comm ev d,Int.mul_comm eo d,Int.mul_assoc,Int.mul_assoc,Int.mul_comm ev eo];omega];exact Int.zero_emod m
   ·rw[hz k (by omega),oz k (by omega)];simp
  have nP:PRow m W j nx:=⟨nl,na,nz,by omega,by omega,by rw[nd];exact⟨md,hmd⟩⟩
  have hsame:row (p.set j nx) (j:Int)=nx:=ZaX (by omega);have hset:(p.set j nx).length=W:=by rw[List.length_set];exact hpl
  have c4:=Mix_ m2 m12 (x:=md) (y:=0) na hva (by omega) (by omega) (by omega) (by omega) (by omega) (by omega);have f1:wrapI ((rd v (j:Int)).tdiv d)=ev:=by rw[hev,Int.mul_tdiv_cancel_left _ (by omega)];exact w64 (by omega) (by omega)
  have f2:wrapI (0-wrapI ((rd o (j:Int)).tdiv d)) = -eo:=by rw[heo,Int.mul_tdiv_cancel_left _ (by omega),w64 (x:=eo) (by omega) (by omega),w64 (by omega) (by omega)];omega
  have f3:wrapI (Int.tdiv m d)=md:=by rw[hmd,Int.mul_tdiv_cancel_left _ (by omega)];exact w64 (by omega) (by omega)
  obtain⟨nw,hnw⟩:∃nw,nw=mix m md nx 0 v:=⟨_,rfl⟩
  have wl:nw.length=W:=by rw[hnw,Zbl,nl]
  have wa:AllIn m nw:=by rw[hnw];exact Zcp (by omega)
  have wz:Zb (j+1) nw:=λ k hk=>by
   rw[hnw,ZbT (by omega)]
   by_cases e:k=j
   ·subst e;rw[nd,show md*d+0*rd v (k:Int)=m by rw[hmd,Int.mul_comm md d];omega];exact Int.emod_self
   ·rw[nz k (by omega)];simp
  rw[<-hnw]at c4;have g0:∀k:Nat,k<W->m∣s*rd o (k:Int)+t*rd v (k:Int)-rd nx (k:Int):=λ k hk=>by rw[hnx];exact Zb1 (by omega)
  have g1:∀k:Nat,k<W->m∣ev*rd o (k:Int)+(-eo)*rd v (k:Int)-rd ny (k:Int):=λ k hk=>by rw[hny];exact Zb1 (by omega)
  have g2:∀k:Nat,k<W->m∣md*rd nx (k:Int)+0*rd v (k:Int)-rd nw (k:Int):=λ k hk=>by rw[hnw];exact Zb1 (by omega)
  have hdm:dsum m (p.set j nx) W+1<=dsum m p W:=by
   rw[Zg8 hpl hjW,if_pos hjW,Zen hpl hjW nP.ne,nd];unfold dv;rw[if_neg hr,<-ho];have:d<=rd o (j:Int):=Int.le_of_dvd p0 ⟨eo,heo⟩
   by_cases q:d=rd o (j:Int)
   ·exact absurd (ZcG.2 ⟨ev,by rw[<-q];exact hev⟩) hd
   ·omega
  have hsw:Pst m W (p.set j nx) (st++[nw,ny]) M:=by
   refine h.swap hjW hne nP (λ w hw=>?_) (λ q=>?_) ?_ ?_ ?_
   ·
    simp only[List.mem_cons,List.not_mem_nil,or_false]at hw;rcases hw with rfl|rfl
    ·exact⟨⟨wl,wa⟩,wz⟩
    ·exact⟨⟨yl,ya⟩,yz⟩
   ·
    rw[<-ho];refine Sp.two (a:=eo) (b:=t) (x:=V nx) (y:=V ny) (.gen (.inl rfl)) (.gen (.inr ⟨_,List.mem_cons_of_mem _ (List.mem_cons_self ..),rfl⟩)) λ k hk=>?_
    obtain⟨q0,h0⟩:=g0 k hk;obtain⟨q1,h1⟩:=g1 k hk;refine⟨-(eo*q0)-t*q1,?_⟩;show eo*rd nx (k:Int)+t*rd ny (k:Int)-rd o (k:Int)=_;have e0:rd nx (k:Int)=s*rd o (k:Int)+t*rd v (k:Int)-m*q0:=by omega
    have e1:rd ny (k:Int)=ev*rd o (k:Int)+(-eo)*rd v (k:Int)-m*q1:=by omega
    rw[e0,e1];have e2:rd o (k:Int)=(s*eo+t*ev)*rd o (k:Int):=by rw[hunit];omega
    generalize rd o (k:Int)=A at e2 ⊢
    generalize rd v (k:Int)=C
    have e3:eo*(s*A+t*C-m*q0)+t*(ev*A + -eo*C-m*q1)-A=(s*eo+t*ev)*A-A+m*(-(eo*q0)-t*q1):=by simp only[Int.mul_sub,Int.mul_add,Int.add_mul,Int.neg_mul,Int.mul_neg,<-Int.mul_assoc];rw[Int.mul_comm eo s,Int.mul_comm eo t,Int.mul_comm eo m,Int.mul_comm t m];omega
    rw[e3,<-e2];omega
   ·
    refine Sp.two (a:=ev) (b:=-s) (x:=V nx) (y:=V ny) (.gen (.inl rfl)) (.gen (.inr ⟨_,List.mem_cons_of_mem _ (List.mem_cons_self ..),rfl⟩)) λ k hk=>?_
    obtain⟨q0,h0⟩:=g0 k hk;obtain⟨q1,h1⟩:=g1 k hk;refine⟨-(ev*q0)+s*q1,?_⟩;show ev*rd nx (k:Int) + -s*rd ny (k:Int)-rd v (k:Int)=_;have e0:rd nx (k:Int)=s*rd o (k:Int)+t*rd v (k:Int)-m*q0:=by omega
    have e1:rd ny (k:Int)=ev*rd o (k:Int)+(-eo)*rd v (k:Int)-m*q1:=by omega
    rw[e0,e1];have e2:rd v (k:Int)=(s*eo+t*ev)*rd v (k:Int):=by rw[hunit];omega
    generalize rd v (k:Int)=C at e2 ⊢
    generalize rd o (k:Int)=A
    have e3:ev*(s*A+t*C-m*q0) + -s*(ev*A + -eo*C-m*q1)-C=(s*eo+t*ev)*C-C+m*(-(ev*q0)+s*q1):=by simp only[Int.mul_sub,Int.mul_add,Int.add_mul,Int.neg_mul,Int.mul_neg,<-Int.mul_assoc];rw[Int.mul_comm ev s,Int.mul_comm ev t,Int.mul_comm ev m,Int.mul_comm s m];omega
    rw[e3,<-e2];omega
   ·
    refine .alike (.gen ⟨_,List.mem_cons_self ..,rfl⟩) λ k hk=>?_
    obtain⟨q,hq⟩:=g2 k hk;refine⟨-q,?_⟩;rw[nd,hmde,Int.mul_neg,<-hq];show rd nw (k:Int)-md*rd nx (k:Int)=_;omega
   ·
    rw[<-ho];have hO:Sp m W (λ g=>g=V v\/(o≠[]/\g=V o)) (V o):=.gen (.inr ⟨hP.ne,rfl⟩);have hn2:Sp m W (λ g=>g=V v\/(o≠[]/\g=V o)) (V nx):=Sp.two (a:=s) (b:=t) (x:=V o) (y:=V v) hO (.gen (.inl rfl)) λ k hk=>g0 k hk
    intro g hg;rcases hg with rfl|⟨w,hw,rfl⟩
    ·exact hn2
    simp only[List.mem_cons,List.not_mem_nil,or_false]at hw;rcases hw with rfl|rfl
    ·exact Sp.two (a:=md) (b:=0) (x:=V nx) (y:=V v) hn2 (.gen (.inl rfl)) λ k hk=>g2 k hk
    ·exact Sp.two (a:=ev) (b:=-eo) (x:=V o) (y:=V v) hO (.gen (.inl rfl)) λ k hk=>g1 k hk
  rw[show st++[nw,ny]=(st++[nw])++[ny]by simp]at hsw;have sl:(st++[nw]).length=st.length+1:=by simp
  obtain⟨p', ws,k1,k2,k3,k4⟩:=ih (j+1) ny (p.set j nx) (st++[nw]) (by omega) yz hsw (by omega);refine⟨p', nw :: ws,?_,by rw[show st++nw :: ws=(st++[nw])++ws by simp];exact k2,.inr ?_,by rw[List.length_cons];omega⟩
  ·
   rw[show st++nw :: ws=(st++[nw])++ws by simp,<-k1,ZE.l1_eq,wn (j:=j) (by omega),hT,Int.toNat_natCast];rw[<-ho]at e' ⊢
   (with_reducible repeat (first|refine go_p ?_|refine go_n ?_|refine go_b ?_|dsimp only))
   rw[f1,f2]
   (with_reducible repeat (first|refine go_p ?_|refine go_n ?_|refine go_b ?_|dsimp only))
   rw[hsame,f3]
   (with_reducible repeat (first|refine go_p ?_|refine go_n ?_|refine go_b ?_|dsimp only))
   rw[l1]
   ((with_reducible repeat (first|refine go_p ?_|refine go_n ?_|refine go_b ?_|dsimp only));first|done|(with_reducible rfl)|simp (disch:=omega) only[w64])
  ·omega
theorem ZnM {m:Int} (m2:2<=m) (m12:m<=12) {W:Nat} (hW:W<=100000) {M:Vc->Prop} {p:List (List Int)} {r:List Int} (h:Pst m W p [r] M):∃p', ZE.f p r m=some p' /\ Pst m W p' [] M:=by
 rw[ZE.f_eq];have key:∀(D:Nat) (k:Nat) (p st:List (List Int)),st.length=k->dsum m p W<=D->(st.length:Int)+dsum m p W<=100000000->Pst m W p st M->∃p', ZE.l0 m p st=some p' /\ Pst m W p' [] M:=by
  intro D
  induction D using Nat.strongRecOn with
  | _ D ihD =>
   intro k
   induction k with
   | zero =>
    intro p st hl _ _ h;obtain rfl:=List.length_eq_zero_iff.1 hl;refine⟨p,?_,h⟩;rw[ZE.l0_eq]
    ((with_reducible repeat (first|refine go_p ?_|refine go_n ?_|refine go_b ?_|dsimp only));first|done|(with_reducible rfl)|simp (disch:=omega) only[w64])
   | succ k ih =>
    intro p st hl hD hK h;obtain⟨st', v,rfl⟩:∃st' v,st=st' ++ [v]:=⟨st.dropLast,st.getLast (λ e=>by rw[e]at hl;simp at hl),(List.dropLast_concat_getLast _).symm⟩
    have e0:(st' ++ [v]).length=st'.length+1:=by simp
    have e1:wrapI (((st' ++ [v]).length:Int)-1)=(st'.length:Int):=by obtain⟨s0,_⟩:=Zdm (show 0<m by omega) h.inv.tab W (Nat.le_refl _);rw[w64 (by omega) (by omega)];omega
    obtain⟨s0,_⟩:=Zdm (show 0<m by omega) h.inv.tab W (Nat.le_refl _);have st1:ZE.l0 m p (st' ++ [v])=ZE.l1 m v 0 p st':=by
     rw[ZE.l0_eq,e1,Zfx,Int.toNat_natCast,ZeQ]
     ((with_reducible repeat (first|refine go_p ?_|refine go_n ?_|refine go_b ?_|dsimp only));first|done|(with_reducible rfl)|simp (disch:=omega) only[w64])
    obtain⟨p', ws,k1,k2,k3,k4⟩:=Zoc m2 m12 hW W 0 v p st' (by omega) (λ i hi=>by omega) h (by omega);rw[st1,show(0:Int)=((0:Nat):Int)from rfl,k1];rcases k3 with ⟨rfl,rfl⟩|k3
    ·rw[List.append_nil]at k2 ⊢;exact ih p' st' (by omega) hD (by omega) k2
    ·obtain⟨s1,_⟩:=Zdm (show 0<m by omega) k2.inv.tab W (Nat.le_refl _);have e2:(st' ++ ws).length=st'.length+ws.length:=List.length_append;exact ihD (dsum m p' W).toNat (by omega) _ p' (st' ++ ws) rfl (by omega) (by omega) k2
 obtain⟨s0,s1⟩:=Zdm (show 0<m by omega) h.inv.tab W (Nat.le_refl _);have hb:m*(W:Int)<=12*100000:=Int.mul_le_mul (by omega) (by omega) (by omega) (by omega);exact key (dsum m p W).toNat 1 p [r] rfl (by omega) (by show(1:Int)+_<=_;omega) h
section
variable {m:Int} {W:Nat} {p:List (List Int)} {M:Vc->Prop} {G G' : Vc->Prop}
theorem Pst.lead (m0:0<m) (h:Pst m W p [] M):Lead m W p M:=by
 have e:∀k g,GT W p [] k g->Sp m W (Rws W p k) g:=λ k g hg=>by
  rcases hg with hg|⟨s,hs,_⟩
  ·exact .gen hg
  ·cases hs
 exact Zog m0 h.inv.tab (λ j hj hr=>(h.inv.how j hj hr).mono (e _)) λ x=>by rw[<-h.spn x];exact⟨λ hx=>hx.mono λ g hg=>.gen (.inl hg),λ hx=>hx.mono (e 0)⟩
theorem Pst.add {r:List Int} (h:Pst m W p [] (Sp m W G)) (hr:r.length=W/\AllIn m r) (hG:∀g,G' g↔G g\/g=V r):Pst m W p [r] (Sp m W G') where
 inv:=⟨h.inv.tab,λ s hs=>by rw[List.mem_singleton]at hs;subst hs;exact hr,λ j hj hn=>(h.inv.how j hj hn).mono λ g hg=>by
  rcases hg with hg|⟨s,hs,_⟩
  ·exact .gen (.inl hg)
  ·cases hs⟩
 spn:=λ x=>by
  constructor
  ·
   intro hx;refine hx.mono λ g hg=>?_
   rcases hg with hg|⟨s,hs,_,rfl⟩
   ·exact((h.spn g).1 (.gen (.inl hg))).mono λ g hg=>.gen ((hG g).2 (.inl hg))
   ·rw[List.mem_singleton]at hs;subst hs;exact .gen ((hG _).2 (.inr rfl))
  ·
   intro hx;refine hx.mono λ g hg=>?_
   rcases(hG g).1 hg with hg|rfl
   ·
    refine((h.spn g).2 (.gen hg)).mono λ g hg=>?_
    rcases hg with hg|⟨s,hs,_⟩
    ·exact .gen (.inl hg)
    ·cases hs
   ·exact .gen (.inr ⟨r,List.mem_singleton.2 rfl,λ i hi=>by omega,rfl⟩)
theorem Zhv (n:Nat) (i:Int):row (List.replicate n ([]:List Int)) i=[]:=by
 simp only[row,List.getD_eq_getElem?_getD,List.getElem?_replicate]
 split<;>rfl
theorem Pst.none (hG:∀g,¬ G g):Pst m W (List.replicate W []) [] (Sp m W G) where
 inv:=⟨⟨List.length_replicate,λ j _=>.inl (Zhv _ _)⟩,λ s hs=>(by cases hs),λ j _ hn=>absurd (Zhv _ _) hn⟩
 spn:=λ x=>by
  constructor
  ·
   intro hx;refine hx.mono λ g hg=>?_
   rcases hg with ⟨j,_,_,hn,_⟩|⟨s,hs,_⟩
   ·exact absurd (Zhv _ _) hn
   ·cases hs
  ·intro hx;exact hx.mono λ g hg=>absurd hg (hG g)
def Gn (f:Nat->List Int) (k:Nat):Vc->Prop:=λ g=>∃i:Nat,i<k/\g=V (f i)
theorem ZiB {f:Nat->List Int} {k:Nat} (g:Vc):Gn f (k+1) g↔Gn f k g\/g=V (f k):=by
 constructor
 ·
  rintro⟨i,hi,rfl⟩
  by_cases e:i=k
  ·exact .inr (by rw[e])
  ·exact .inl ⟨i,by omega,rfl⟩
 ·
  rintro(⟨i,hi,rfl⟩|rfl)
  ·exact⟨i,by omega,rfl⟩
  ·exact⟨k,by omega,rfl⟩
theorem Zju (m2:2<=m) (m12:m<=12) (hW:W<=100000) {X:List (List Int)} (hX:X.length<=1000000) (hr:∀i:Nat,i<X.length->(row X (i:Int)).length=W/\AllIn m (row X (i:Int))) :
  ∃p,Z4.f X (W:Int) m=some p/\Pst m W p [] (Sp m W (Gn (λ i=>row X (i:Int)) X.length)):=by
 rw[Z4.f_eq,Int.toNat_natCast];have key:∀k,k<=X.length->∃p,Z4.l0 X m 0 (List.replicate W [])=Z4.l0 X m (k:Int) p/\Pst m W p [] (Sp m W (Gn (λ i=>row X (i:Int)) k)):=by
  intro k
  induction k with
  | zero=>exact λ _=>⟨_,rfl,Pst.none λ g ⟨i,hi,_⟩=>by omega⟩
  | succ k ih =>
   intro hk;obtain⟨p,h1,h2⟩:=ih (by omega);obtain⟨p', h3,h4⟩:=ZnM m2 m12 hW (h2.add (hr k (by omega)) ZiB);refine⟨p', ?_,h4⟩;rw[h1,Z4.l0_eq,wn (j:=k) (by omega)]
   ((with_reducible repeat (first|refine go_p ?_|refine go_n ?_|refine go_b ?_|dsimp only));first|done|(with_reducible rfl)|simp (disch:=omega) only[w64])
 obtain⟨p,h1,h2⟩:=key X.length (Nat.le_refl _);refine⟨p,?_,h2⟩
 (with_reducible repeat (first|refine go_p ?_|refine go_n ?_|refine go_b ?_|dsimp only))
 rw[h1,Z4.l0_eq]
 ((with_reducible repeat (first|refine go_p ?_|refine go_n ?_|refine go_b ?_|dsimp only));first|done|(with_reducible rfl)|simp (disch:=omega) only[w64])
theorem Zht {r:List Int} {A i:Nat} (h:i<A):rd (r.take A) (i:Int)=rd r (i:Int):=by simp[rd,List.getD_eq_getElem?_getD,List.getElem?_take,h]
theorem Zhs {r:List Int} {A i:Nat}:rd (r.drop A) (i:Int)=rd r ((A+i:Nat):Int):=by simp only[rd,Int.toNat_natCast,List.getD_eq_getElem?_getD,List.getElem?_drop]
theorem Lead.first {A B:Nat} {q:List (List Int)} (h:Lead m (A+B) p M) (m0:0<m) (hl:q.length=A) (hr:∀j:Nat,j<A->row q (j:Int)=(row p (j:Int)).take A) :
    Lead m A q (λ x=>∃y,M y/\∀i,i<A->m∣y i-x i):=by
  have hP:∀j:Nat,j<A->row p (j:Int)≠[]->PRow m A j (row q (j:Int)):=λ j hj hn=>by
    have k:=h.tab.prow (show j<A+B by omega) hn;rw[hr j hj];refine⟨by rw[List.length_take,k.len];omega,k.ent.take _,λ i hi=>by rw[Zht (by omega)];exact k.zero i hi,?_,?_,?_⟩ <;> rw[Zht hj]
    · exact k.pos
    · exact k.lt
    · exact k.dvd
  have hE:∀j:Nat,j<A->(row q (j:Int)=[]↔row p (j:Int)=[]):=λ j hj=>by
    constructor
    · intro e
      by_cases hn:row p (j:Int)=[]
      · exact hn
      · exact absurd e (hP j hj hn).ne
    · intro e;rw[hr j hj,e];simp
  have hdv:∀j:Nat,j<A->dv m q j=dv m p j:=λ j hj=>by
    unfold dv
    by_cases hn:row p (j:Int)=[]
    · rw[if_pos hn,if_pos ((hE j hj).2 hn)]
    · rw[if_neg hn,if_neg λ e=>hn ((hE j hj).1 e),hr j hj,Zht hj]
  exact {
    tab:=⟨hl,λ j hj=>by
      by_cases hn:row p (j:Int)=[]
      · exact .inl ((hE j hj).2 hn)
      · exact .inr (hP j hj hn)⟩
    sub:=⟨⟨_,h.sub.zero,λ i _=>ZaG rfl⟩,λ x y ⟨x', hx,ex⟩ ⟨y', hy,ey⟩ c=>⟨_,h.sub.lin _ _ hx hy c,λ i hi=>by
      have:=Int.dvd_add (ex i hi) (Int.dvd_mul_of_dvd_right (b:=c) (ey i hi));rw[Int.mul_sub]at this;rwa[show ∀a b c d:Int,a+c-(b+d)=a-b+(c-d)from λ a b c d=>by omega]⟩,
      λ x y ⟨x', hx,ex⟩ e=>⟨x', hx,λ i hi=>by have:=Int.dvd_add (ex i hi) (e i hi);rwa[show ∀a b c:Int,a-b+(b-c)=a-c from λ a b c=>by omega]at this⟩⟩
    own:=λ j hj hn=>⟨V (row p (j:Int)),h.own j (by omega) λ e=>hn ((hE j hj).2 e),λ i hi=>by refine ZaG ?_;show rd (row p (j:Int)) (i:Int)=rd (row q (j:Int)) (i:Int);rw[hr j hj,Zht hi]⟩
    lead:=λ x ⟨y,hy,e⟩ j hj hz=>by
      have:=h.lead y hy j (by omega) λ i hi=>by have:=Int.dvd_add (e i (by omega)) (hz i hi);rwa[show ∀a b:Int,a-b+b=a from λ a b=>by omega]at this
      rw[hdv j hj];have hd:=(dv_bd m0 h.tab (show j<A+B by omega)).2.2;have:=Int.dvd_sub this (Int.dvd_trans hd (e j hj));rwa[show ∀a b:Int,a-(a-b)=b from λ a b=>by omega]at this }
def pad (A:Nat) (x:Vc):Vc:=λ i=>if i<A then 0 else x (i-A)
theorem Lead.last {A B:Nat} {q:List (List Int)} (h:Lead m (A+B) p M) (m0:0<m) (hl:q.length=B) (hr:∀j:Nat,j<B->row q (j:Int)=(row p ((A+j:Nat):Int)).drop A) :
    Lead m B q (λ x=>M (pad A x)):=by
  have hP:∀j:Nat,j<B->row p ((A+j:Nat):Int)≠[]->PRow m B j (row q (j:Int)):=λ j hj hn=>by
    have k:=h.tab.prow (show A+j<A+B by omega) hn;rw[hr j hj];refine⟨by rw[List.length_drop,k.len];omega,k.ent.drop _,λ i hi=>by rw[Zhs];exact k.zero _ (by omega),?_,?_,?_⟩ <;> rw[Zhs]
    · exact k.pos
    · exact k.lt
    · exact k.dvd
  have hE:∀j:Nat,j<B->(row q (j:Int)=[]↔row p ((A+j:Nat):Int)=[]):=λ j hj=>by
    constructor
    · intro e
      by_cases hn:row p ((A+j:Nat):Int)=[]
      · exact hn
      · exact absurd e (hP j hj hn).ne
    · intro e;rw[hr j hj,e];simp
  have hdv:∀j:Nat,j<B->dv m q j=dv m p (A+j):=λ j hj=>by
    unfold dv
    by_cases hn:row p ((A+j:Nat):Int)=[]
    · rw[if_pos hn,if_pos ((hE j hj).2 hn)]
    · rw[if_neg hn,if_neg λ e=>hn ((hE j hj).1 e),hr j hj,Zhs]
  have hpad:∀(x y:Vc) (c:Int),pad A (λ i=>x i+c*y i)=λ i=>pad A x i+c*pad A y i:=λ x y c=>by
    funext i
    unfold pad
    by_cases h:i<A
    · simp[h]
    · simp[h]
  exact {
    tab:=⟨hl,λ j hj=>by
      by_cases hn:row p ((A+j:Nat):Int)=[]
      · exact .inl ((hE j hj).2 hn)
      · exact .inr (hP j hj hn)⟩
    sub:=⟨h.sub.alike _ _ h.sub.zero λ i _=>ZaG (by unfold pad;simp),λ x y hx hy c=>by rw[hpad];exact h.sub.lin _ _ hx hy c,
      λ x y hx e=>h.sub.alike _ _ hx λ i hi=>by
        unfold pad
        by_cases k:i<A
        · simp[k]
        · simp only[k,if_false]
          exact e (i-A) (by omega)⟩
    own:=λ j hj hn=>by
      have hn' : row p ((A+j:Nat):Int)≠[]:=λ e=>hn ((hE j hj).2 e)
      refine h.sub.alike _ _ (h.own (A+j) (by omega) hn') λ i hi=>ZaG ?_
      unfold pad
      by_cases k:i<A
      · simp only[k,if_true]
        exact(h.tab.prow (show A+j<A+B by omega) hn').zero i (by omega)
      · simp only[k,if_false]
        show rd (row p ((A+j:Nat):Int)) (i:Int)=rd (row q (j:Int)) ((i-A:Nat):Int);rw[hr j hj,Zhs,show A+(i-A)=i by omega]
    lead:=λ x hx j hj hz=>by
      have:=h.lead _ hx (A+j) (by omega) λ i hi=>by
        unfold pad
        by_cases k:i<A
        · simp[k]
        · simp only[k,if_false]
          exact hz _ (by omega)
      rw[hdv j hj];unfold pad at this;rw[if_neg (by omega),show A+j-A=j by omega]at this;exact this }
theorem ZbH {a b:List Int} {i:Nat} (h:i<a.length):rd (a++b) (i:Int)=rd a (i:Int):=by simp[rd,List.getD_eq_getElem?_getD,List.getElem?_append,h]
theorem ZbN {a b:List Int} {i:Nat} (h:a.length<=i):rd (a++b) (i:Int)=rd b ((i-a.length:Nat):Int):=by simp only[rd,Int.toNat_natCast,List.getD_eq_getElem?_getD,List.getElem?_append,if_neg (show ¬ i<a.length by omega)]
theorem ZgB {A B k:Nat} {f e:Nat->List Int} (hf:∀i,i<k->(f i).length=A) (hM:Lead m (A+B) p (Sp m (A+B) (Gn (λ i=>f i++e i) k))) (hL:Sub m A (λ x=>∃y,Sp m (A+B) (Gn (λ i=>f i++e i) k) y/\∀i,i<A->m∣y i-x i)) (x:Vc) :
  (∃y,Sp m (A+B) (Gn (λ i=>f i++e i) k) y/\∀i,i<A->m∣y i-x i)↔Sp m A (Gn f k) x:=by
 constructor
 ·
  rintro⟨y,hy,h⟩;refine .alike ?_ h;have hs:Sub m (A+B) (Sp m A (Gn f k)):=⟨.nil,λ x y hx hy c=>hx.plus (hy.mul c),λ x y hx h=>.alike hx λ i hi=>h i (by omega)⟩
  refine hs.all (λ g hg=>?_) hy;obtain⟨i,hi,rfl⟩:=hg;refine .alike (.gen ⟨i,hi,rfl⟩) λ j hj=>ZaG ?_
  show rd (f i) (j:Int)=rd (f i++e i) (j:Int);rw[ZbH (by rw[hf i hi];exact hj)]
 ·intro hx;refine hL.all (λ g hg=>?_) hx;obtain⟨i,hi,rfl⟩:=hg;refine⟨_,.gen ⟨i,hi,rfl⟩,λ j hj=>ZaG ?_⟩;show rd (f i++e i) (j:Int)=rd (f i) (j:Int);rw[ZbH (by rw[hf i hi];exact hj)]
end
theorem Zbw {t:List Int} {j:Nat} {x:Int} (h:j<t.length):rd (t.set j x) (j:Int)=x:=by rw[rd_get (by rw[List.length_set];exact h)];simp
theorem ZbE {t:List Int} {i j:Nat} {x:Int} (h:i≠j):rd (t.set j x) (i:Int)=rd t (i:Int):=by simp only[rd,Int.toNat_natCast,List.getD_eq_getElem?_getD,List.getElem?_set,if_neg (show ¬ j=i from λ e=>h e.symm)]
def unitC (c i:Nat):List Int:=(List.replicate c (0:Int)).set i 1
theorem ZcH (c i:Nat):(unitC c i).length=c:=by simp[unitC]
theorem ZfC {m:Int} (m2:2<=m) (c i:Nat):AllIn m (unitC c i):=ZbO λ x hx=>by
 rcases List.mem_or_eq_of_mem_set hx with h|h
 ·rw[List.mem_replicate]at h;omega
 ·omega
theorem ZbX (g:List (List Int)) (m:Int) (u v:List Int) (d:Nat):(bdL g m u v d).length=(cells g ((d+1:Nat):Int)).toNat:=by rw[bdL,List.length_map,List.length_range]
theorem Zk5 {m:Int} (m2:2<=m) (g:List (List Int)) (u v:List Int) (d:Nat):AllIn m (bdL g m u v d):=ZbO λ x hx=>by obtain⟨i,_,rfl⟩:=List.mem_map.1 hx;exact⟨Int.emod_nonneg _ (by omega),Int.emod_lt_of_pos _ (by omega)⟩
noncomputable def bdU (g:List (List Int)) (m:Int) (u:List Int) (e i:Nat):List Int:=bdL g m u (unitC (cells g (e:Int)).toNat i) e
noncomputable def bdG (g:List (List Int)) (m:Int) (u:List Int):Nat->Vc->Prop
 | 0=>λ _=>False
 | e+1=>Gn (bdU g m u e) (cells g (e:Int)).toNat
noncomputable def bdA (g:List (List Int)) (m:Int) (u:List Int) (e i:Nat):List Int:=bdU g m u e i++unitC (cells g (e:Int)).toNat i
noncomputable def nB (g:List (List Int)) (e:Nat):Nat:=(cells g (e:Int)).toNat
theorem Zkl {g:List (List Int)} (hg:Grp g) {m:Int} (m2:2<=m) {e:Nat} (he:e<=3) (i:Nat):Co g m e (unitC (cells g (e:Int)).toNat i):=by have hb:=Zex hg (d:=(e:Int)) (by omega);exact⟨⟨by omega,by omega⟩,by rw[ZcH];omega,ZfC m2 _ _⟩
theorem Zhf (m:Int) {c:Nat} (hc:c<=100000):ZaZ.f m (c:Int)=some (m,List.replicate c []):=by
 rw[ZaZ.f_eq,Int.toNat_natCast]
 ((with_reducible repeat (first|refine go_p ?_|refine go_n ?_|refine go_b ?_|dsimp only));first|done|(with_reducible rfl)|simp (disch:=omega) only[w64])
theorem concat2 {a b:List Int} (ha:a.length<=1000000) (hb:b.length<=1000000):Zs.f [a,b]=some (a++b):=by
 have l2:([a,b]:List (List Int)).length=2:=rfl;have r0:row [a,b] 0=a:=rfl;have r1:row [a,b] 1=b:=rfl;have w1:wrapI (0+1)=1:=w64 (by omega) (by omega);have w2:wrapI (1+1)=2:=w64 (by omega) (by omega);have w3:wrapI (0+(a.length:Int))=(a.length:Int):=by rw[w64 (by omega) (by omega)];omega
 have w4:wrapI ((a.length:Int)+(b.length:Int))=((a.length+b.length:Nat):Int):=by rw[w64 (by omega) (by omega)];omega
 have w5:wrapI (0-0)=0:=w64 (by omega) (by omega);have hG:ZaD.f ((a.length+b.length:Nat):Int)=some []:=by
  have w6:wrapI (((a.length+b.length:Nat):Int)-0)=((a.length+b.length:Nat):Int):=by rw[w64 (by omega) (by omega)];omega
  rw[ZaD.f_eq,w5,w6,Int.toNat_natCast,List.length_replicate]
  by_cases h:a.length+b.length=0
  ·rw[h];((with_reducible repeat (first|refine go_p ?_|refine go_n ?_|refine go_b ?_|dsimp only));first|done|(with_reducible rfl)|simp (disch:=omega) only[w64])
  ·
   (with_reducible repeat (first|refine go_p ?_|refine go_n ?_|refine go_b ?_|dsimp only))
   rfl
 rw[Zs.f_eq,l2,Zs.l0_eq,r0,w1,w3]
 (with_reducible repeat (first|refine go_p ?_|refine go_n ?_|refine go_b ?_|dsimp only))
 rw[Zs.l0_eq,r1,w2,w4]
 (with_reducible repeat (first|refine go_p ?_|refine go_n ?_|refine go_b ?_|dsimp only))
 rw[Zs.l0_eq]
 (with_reducible repeat (first|refine go_p ?_|refine go_n ?_|refine go_b ?_|dsimp only))
 rw[l2,Zs.l1_eq,r0,w1,show([]:List Int).length=0 from rfl]
 (with_reducible repeat (first|refine go_p ?_|refine go_n ?_|refine go_b ?_|dsimp only))
 rw[List.nil_append,Zs.l1_eq,r1,w2]
 (with_reducible repeat (first|refine go_p ?_|refine go_n ?_|refine go_b ?_|dsimp only))
 rw[Zs.l1_eq]
 ((with_reducible repeat (first|refine go_p ?_|refine go_n ?_|refine go_b ?_|dsimp only));first|done|(with_reducible rfl)|simp (disch:=omega) only[w64])
theorem nA_bd {g:List (List Int)} (hg:Grp g) {e:Nat} (he:e<=4):nB g e<=16807/\((nB g e:Nat):Int)=cells g (e:Int):=by have hb:=Zex hg (d:=(e:Int)) (by omega);unfold nB;omega
theorem ZeY {g:List (List Int)} (hg:Grp g) {m:Int} {u:List Int} (hm:Mdl g m u) {n:Nat} (hn:n<=3) :
  ∃p,ZY.f g m u (n:Int)=some (m,p)/\Pst m (nB g n) p [] (Sp m (nB g n) (bdG g m u n)):=by
 have m2:=hm.m2;have m12:=hm.m12
 obtain⟨b1,b2⟩:=nA_bd hg (e:=n) (by omega);have hc:=Zgr hg (d:=(n:Int)) (by omega) (by omega);have hN:=Zhf m (c:=nB g n) (by omega);rw[b2]at hN;rw[ZY.f_eq,hc,Option.bind_some,hN,Option.bind_some]
 cases n with
 | zero =>
  refine⟨_,if_pos rfl,Pst.none λ g h=>h⟩
 | succ e =>
  obtain⟨c1,c2⟩:=nA_bd hg (e:=e) (by omega);have w:wrapI (((e+1:Nat):Int)-1)=(e:Int):=by rw[w64 (by omega) (by omega)];omega
  have hc2:=Zgr hg (d:=(e:Int)) (by omega) (by omega);have hz:=zero_ hg (n:=e) (by omega);rw[<-show nB g e=(cells g (e:Int)).toNat from rfl]at hz;rw[w,hc2,Option.bind_some,if_neg (by omega),<-c2];have key:∀k,k<=nB g e->∃p,ZY.l0 ((e+1:Nat):Int) ((nB g e:Nat):Int) 0 g m u m (List.replicate (nB g (e+1)) [])=ZY.l0 ((e+1:Nat):Int) ((nB g e:Nat):Int) (k:Int) g m u m p/\Pst m (nB g (e+1)) p [] (Sp m (nB g (e+1)) (Gn (bdU g m u e) k)):=by
   intro k
   induction k with
   | zero=>exact λ _=>⟨_,rfl,Pst.none λ g ⟨i,hi,_⟩=>by omega⟩
   | succ k ih =>
    intro hk;obtain⟨p,h1,h2⟩:=ih (by omega);have hl:(List.replicate (nB g e) (0:Int)).length=nB g e:=List.length_replicate;have hB:=ZhM hg hm (Zkl hg m2 (e:=e) (by omega) k);have hB:ZaV.f g m u (e:Int) ((List.replicate (nB g e) (0:Int)).set k 1)=some (((e+1:Nat):Int),bdU g m u e k):=hB;obtain⟨p', h3,h4⟩:=put_ m2 m12 (show nB g (e+1)<=100000 by omega) (h2.add (r:=bdU g m u e k) ⟨ZbX ..,Zk5 m2 _ _ _ _⟩ ZiB);refine⟨p', ?_,h4⟩;rw[h1,ZY.l0_eq,w,wn (j:=k) (by omega),Int.toNat_natCast]
    ((with_reducible repeat (first|refine go_p ?_|refine go_n ?_|refine go_b ?_|dsimp only));first|done|(with_reducible rfl)|simp (disch:=omega) only[w64])
  obtain⟨p,h1,h2⟩:=key _ (Nat.le_refl _);refine⟨p,?_,h2⟩;have e1:(cells g ((e+1:Nat):Int)).toNat=nB g (e+1):=rfl;rw[h1,ZY.l0_eq]
  ((with_reducible repeat (first|refine go_p ?_|refine go_n ?_|refine go_b ?_|dsimp only));first|done|(with_reducible rfl)|simp (disch:=omega) only[w64])
theorem Zjy {g:List (List Int)} (hg:Grp g) {m:Int} {u:List Int} (hm:Mdl g m u) {n:Nat} (hn:n<=3) :
  ∃p,ZaK.f g m u (n:Int)=some (m,p,((nB g (n+1):Nat):Int))/\Pst m (nB g (n+1)+nB g n) p [] (Sp m (nB g (n+1)+nB g n) (Gn (bdA g m u n) (nB g n))):=by
 have m2:=hm.m2;have m12:=hm.m12
 obtain⟨b1,b2⟩:=nA_bd hg (e:=n) (by omega);obtain⟨c1,c2⟩:=nA_bd hg (e:=n+1) (by omega);have hc:=Zgr hg (d:=(n:Int)) (by omega) (by omega);have hc2:=Zgr hg (d:=((n+1:Nat):Int)) (by omega) (by omega);have hz:=zero_ hg (n:=n) (by omega);rw[<-show nB g n=(cells g (n:Int)).toNat from rfl]at hz;have hN:=Zhf m (c:=nB g (n+1)+nB g n) (by omega);have w:wrapI ((nB g (n+1):Int)+(nB g n:Int))=((nB g (n+1)+nB g n:Nat):Int):=by rw[w64 (by omega) (by omega)];omega
 rw[ZaK.f_eq,wn (j:=n) (by omega),hc2,Option.bind_some,hc,Option.bind_some,<-b2,<-c2,w,hN,Option.bind_some];have key:∀k,k<=nB g n->∃p,ZaK.l0 (n:Int) ((nB g (n+1):Nat):Int) ((nB g n:Nat):Int) 0 g m u m (List.replicate (nB g (n+1)+nB g n) [])=ZaK.l0 (n:Int) ((nB g (n+1):Nat):Int) ((nB g n:Nat):Int) (k:Int) g m u m p/\Pst m (nB g (n+1)+nB g n) p [] (Sp m (nB g (n+1)+nB g n) (Gn (bdA g m u n) k)):=by
  intro k
  induction k with
  | zero=>exact λ _=>⟨_,rfl,Pst.none λ g ⟨i,hi,_⟩=>by omega⟩
  | succ k ih =>
   intro hk;obtain⟨p,h1,h2⟩:=ih (by omega);have hl:(List.replicate (nB g n) (0:Int)).length=nB g n:=List.length_replicate;have hB:=ZhM hg hm (Zkl hg m2 (e:=n) (by omega) k);have hB:ZaV.f g m u (n:Int) ((List.replicate (nB g n) (0:Int)).set k 1)=some (((n+1:Nat):Int),bdU g m u n k):=hB;have bl:(bdU g m u n k).length=nB g (n+1):=ZbX ..;have ul:(unitC (nB g n) k).length=nB g n:=ZcH ..;have hC:Zs.f [bdU g m u n k,(List.replicate (nB g n) (0:Int)).set k 1]=some (bdA g m u n k):=concat2 (a:=bdU g m u n k) (b:=unitC (nB g n) k) (by omega) (by omega);have al:(bdA g m u n k).length=nB g (n+1)+nB g n:=by show(bdU g m u n k++unitC (nB g n) k).length=_;rw[List.length_append,bl,ul]
   obtain⟨p', h3,h4⟩:=put_ m2 m12 (show nB g (n+1)+nB g n<=100000 by omega) (h2.add (r:=bdA g m u n k) ⟨al,(Zk5 m2 _ _ _ _).append (ZfC m2 _ _)⟩ ZiB);refine⟨p', ?_,h4⟩;rw[h1,ZaK.l0_eq,wn (j:=k) (by omega),Int.toNat_natCast]
   ((with_reducible repeat (first|refine go_p ?_|refine go_n ?_|refine go_b ?_|dsimp only));first|done|(with_reducible rfl)|simp (disch:=omega) only[w64])
 obtain⟨p,h1,h2⟩:=key _ (Nat.le_refl _);refine⟨p,?_,h2⟩;rw[h1,ZaK.l0_eq]
 ((with_reducible repeat (first|refine go_p ?_|refine go_n ?_|refine go_b ?_|dsimp only));first|done|(with_reducible rfl)|simp (disch:=omega) only[w64])
def ZcC (p:List (List Int)) (A B:Nat):List (List Int):=(List.range B).map λ j:Nat=>(row p ((A+j:Nat):Int)).drop A
def Zef (p:List (List Int)) (A:Nat):List (List Int):=(List.range A).map λ j:Nat=>(row p (j:Int)).take A
theorem Zfq {p:List (List Int)} {A B j:Nat} (h:j<B):row (ZcC p A B) (j:Int)=(row p ((A+j:Nat):Int)).drop A:=by rw[Zbz (by simpa [ZcC] using h)];simp[ZcC]
theorem ZgO {p:List (List Int)} {A j:Nat} (h:j<A):row (Zef p A) (j:Int)=(row p (j:Int)).take A:=by rw[Zbz (by simpa [Zef] using h)];simp[Zef]
theorem Zgk (F:Nat->List Int) (B k:Nat) (h:k<B):((List.range k).map F++List.replicate (B-k) []).set k (F k)=(List.range (k+1)).map F++List.replicate (B-(k+1)) []:=by rw[List.set_append,if_neg (by simp),List.length_map,List.length_range,Nat.sub_self,show B-k=(B-(k+1))+1 by omega,List.replicate_succ,List.set_cons_zero,List.range_succ,List.map_append];simp
theorem Zgj (F:Nat->List Int) (B k:Nat) (h:k<B) (e:F k=[]):(List.range k).map F++List.replicate (B-k) []=(List.range (k+1)).map F++List.replicate (B-(k+1)) []:=by rw[show B-k=(B-(k+1))+1 by omega,List.replicate_succ,List.range_succ,List.map_append,List.map_singleton,e];simp
theorem Zhx (F:Nat->List Int) (B k:Nat) (h:k<=B):((List.range k).map F++List.replicate (B-k) []).length=B:=by simp;omega
theorem part_ {m:Int} {p:List (List Int)} {A B:Nat} (hA:A<=100000) (hB:B<=100000) (ht:PTab m (A+B) p):Zai.f m p (A:Int)=some (m,ZcC p A B,m,p):=by
 have hl:=ht.len;have w:wrapI ((p.length:Int)-(A:Int))=(B:Int):=by rw[w64 (by omega) (by omega)];omega
 rw[Zai.f_eq,w,Zhf m hB,Option.bind_some];obtain⟨F,hF⟩:∃F:Nat->List Int,F=λ j:Nat=>(row p ((A+j:Nat):Int)).drop A:=⟨_,rfl⟩
 have loop:=up B (λ k=>Zai.l0 (A:Int) ((A+k:Nat):Int) m p m ((List.range k).map F++List.replicate (B-k) [])) (λ k hk=>by
  have hw:wrapI (((A+k:Nat):Int)-(A:Int))=(k:Int):=by rw[w64 (by omega) (by omega)];omega
  have rl:=Zhx F B k (by omega);have hFk:F k=(row p ((A+k:Nat):Int)).drop A:=by rw[hF]
  rw[show A+(k+1)=A+k+1 from rfl,Zai.l0_eq,wn (j:=A+k) (by omega),hw];simp only[Int.toNat_natCast];rw[<-hFk]
  by_cases hr:row p ((A+k:Nat):Int)=[]
  ·
   have e0:(row p ((A+k:Nat):Int)).length=0:=by rw[hr];rfl
   rw[<-Zgj F B k hk (by rw[hFk,hr];simp)]
   ((with_reducible repeat (first|refine go_p ?_|refine go_n ?_|refine go_b ?_|dsimp only));first|done|(with_reducible rfl)|simp (disch:=omega) only[w64])
  ·
   have hP:=ht.prow (show A+k<A+B by omega) hr;have e1:=hP.len;have e2:(F k).length=B:=by rw[hFk,List.length_drop,e1];omega
   rw[<-Zgk F B k hk]
   ((with_reducible repeat (first|refine go_p ?_|refine go_n ?_|refine go_b ?_|dsimp only));first|done|(with_reducible rfl)|simp (disch:=omega) only[w64]))
 rw[List.range_zero,List.map_nil,List.nil_append,Nat.sub_zero,Nat.add_zero,Nat.sub_self,List.replicate_zero,List.append_nil]at loop;rw[show ZcC p A B=(List.range B).map F by rw[hF];rfl];refine loop.trans ?_;rw[Zai.l0_eq]
 ((with_reducible repeat (first|refine go_p ?_|refine go_n ?_|refine go_b ?_|dsimp only));first|done|(with_reducible rfl)|simp (disch:=omega) only[w64])
noncomputable def coM (g:List (List Int)) (m:Int) (u:List Int) (n:Nat):Vc->Prop:=λ x=>Sp m (nB g (n+1)+nB g n) (Gn (bdA g m u n) (nB g n)) (pad (nB g (n+1)) x)
theorem ZcM {m:Int} {p:List (List Int)} {A B:Nat} {M:Vc->Prop} (m0:0<m) (h:Lead m (A+B) p M):Lead m B (ZcC p A B) (λ x=>M (pad A x)):=
 h.last m0 (by simp[ZcC]) λ j hj=>Zfq hj
theorem ZdO {g:List (List Int)} (hg:Grp g) {m:Int} {u:List Int} (hm:Mdl g m u) {n:Nat} (hn:n<=3) :
  ∃q,ZaQ.f g m u (n:Int)=some (m,q)/\Lead m (nB g n) q (coM g m u n):=by
 have m2:=hm.m2;obtain⟨b1,b2⟩:=nA_bd hg (e:=n) (by omega);obtain⟨c1,c2⟩:=nA_bd hg (e:=n+1) (by omega);obtain⟨p,h1,h2⟩:=Zjy hg hm hn;have h3:=h2.lead (by omega);have h4:=part_ (m:=m) (A:=nB g (n+1)) (B:=nB g n) (by omega) (by omega) h3.tab;refine⟨_,?_,ZcM (by omega) h3⟩;rw[ZaQ.f_eq]
 ((with_reducible repeat (first|refine go_p ?_|refine go_n ?_|refine go_b ?_|dsimp only));first|done|(with_reducible rfl)|simp (disch:=omega) only[w64])
theorem ZoP {g:List (List Int)} (hg:Grp g) {m:Int} {u:List Int} (hm:Mdl g m u) {n:Nat} (hn:n<=3):Z6.f g m u (n:Int)=some ((List.range (nB g n)).map (bdA g m u n)):=by
 have m2:=hm.m2;obtain⟨b1,b2⟩:=nA_bd hg (e:=n) (by omega);obtain⟨c1,c2⟩:=nA_bd hg (e:=n+1) (by omega);have hc:=ZfI hg (d:=(n:Int)) (by omega) (by omega);have hc2:=ZfI hg (d:=((n+1:Nat):Int)) (by omega) (by omega);rw[<-b2]at hc;rw[<-c2]at hc2;have hz:Zbh.f g (n:Int)=some ((n:Int),List.replicate (nB g n) 0):=by
  rw[Zbh.f_eq,hc,Option.bind_some,Int.toNat_natCast]
  ((with_reducible repeat (first|refine go_p ?_|refine go_n ?_|refine go_b ?_|dsimp only));first|done|(with_reducible rfl)|simp (disch:=omega) only[w64])
 have l3:∀x:List Int,([x]:List (List Int)).length=1:=λ _=>rfl
 have l2:∀x:Int,([x]:List Int).length=1:=λ _=>rfl
 rw[Z6.f_eq,hc,Option.bind_some];have loop:=up (nB g n) (λ k=>Z6.l0 (n:Int) ((nB g n:Nat):Int) (k:Int) g m u ((List.range k).map (bdA g m u n))) (λ k hk=>by
  have hl:(List.replicate (nB g n) (0:Int)).length=nB g n:=List.length_replicate;have bl:(bdU g m u n k).length=nB g (n+1):=ZbX ..;have ul:((List.replicate (nB g n) (0:Int)).set k 1).length=nB g n:=by simp
  have hCo:=Zkl hg m2 (e:=n) (by omega) k;have inner:=up (nB g (n+1)) (λ j=>Z6.l1 (n:Int) ((nB g n:Nat):Int) (k:Int) (j:Int) g m u ((List.range k).map (bdA g m u n)) (n:Int) ((bdU g m u n k).take j) ((List.replicate (nB g n) (0:Int)).set k 1)) (λ j hj=>by
   have hL:=(ZhN hg (n:=n+1) (i:=j) (by omega) (by omega)).2;have hll:=ZcO ((g.length:Int)-1) (n+1) j;obtain⟨hx,_⟩:=Zf4 hg (n:=n+1) (i:=j) (by omega);have hS:=Side_ hg hm hCo hx hll;have hS:ZaM.f g m u (n:Int) ((List.replicate (nB g n) (0:Int)).set k 1) (lst ((g.length:Int)-1) (n+1) j)=some (rd (bdU g m u n k) (j:Int)):=by rw[rd_get (by omega)];simp only[bdU,bdL,List.getElem_map,List.getElem_range];exact hS
   have tl:((bdU g m u n k).take j).length=j:=by rw[List.length_take];omega
   rw[Zet (by omega),Z6.l1_eq,wn (j:=n) (by omega),wn (j:=j) (by omega)]
   (with_reducible repeat (first|refine go_p ?_|refine go_n ?_|refine go_b ?_|dsimp only))
   rw[l2]
   ((with_reducible repeat (first|refine go_p ?_|refine go_n ?_|refine go_b ?_|dsimp only));first|done|(with_reducible rfl)|simp (disch:=omega) only[w64]))
  simp only[Int.natCast_zero,List.take_zero]at inner;rw[List.take_of_length_le (by omega)]at inner;have ml:((List.range k).map (bdA g m u n)).length=k:=by simp
  rw[Z6.l0_eq,Int.toNat_natCast]
  (with_reducible repeat (first|refine go_p ?_|refine go_n ?_|refine go_b ?_|dsimp only))
  rw[inner,Z6.l1_eq,wn (j:=n) (by omega),wn (j:=k) (by omega),l3]
  (with_reducible repeat (first|refine go_p ?_|refine go_n ?_|refine go_b ?_|dsimp only))
  rw[List.range_succ,List.map_append,List.map_singleton]
  rfl)
 simp only[Int.natCast_zero,List.range_zero,List.map_nil]at loop;rw[loop,Z6.l0_eq]
 ((with_reducible repeat (first|refine go_p ?_|refine go_n ?_|refine go_b ?_|dsimp only));first|done|(with_reducible rfl)|simp (disch:=omega) only[w64])
theorem ZnS {g:List (List Int)} {m:Int} {u:List Int} {n k:Nat}:(bdA g m u n k).length=nB g (n+1)+nB g n:=by
 show(bdU g m u n k++unitC (nB g n) k).length=_;rw[List.length_append,ZcH];show(bdL _ _ _ _ _).length+_=_;rw[ZbX]
 rfl
theorem Znr {g:List (List Int)} (hg:Grp g) {m:Int} {u:List Int} (hm:Mdl g m u) {n:Nat} (hn:n<=3) :
  ∃p,Zag.f g m u (n:Int)=some (Zef p (nB g (n+1)),ZcC p (nB g (n+1)) (nB g n),p)/\Lead m (nB g (n+1)+nB g n) p (Sp m (nB g (n+1)+nB g n) (Gn (bdA g m u n) (nB g n))):=by
 have m2:=hm.m2;have m12:=hm.m12
 obtain⟨b1,b2⟩:=nA_bd hg (e:=n) (by omega);obtain⟨c1,c2⟩:=nA_bd hg (e:=n+1) (by omega);have hc:=ZfI hg (d:=(n:Int)) (by omega) (by omega);have hc2:=ZfI hg (d:=((n+1:Nat):Int)) (by omega) (by omega);rw[<-b2]at hc;rw[<-c2]at hc2;obtain⟨A,hA⟩:∃A,A=nB g (n+1):=⟨_,rfl⟩
 obtain⟨B,hB⟩:∃B,B=nB g n:=⟨_,rfl⟩
 have hX:((List.range (nB g n)).map (bdA g m u n)).length=nB g n:=by simp
 have hXr:∀i:Nat,i<nB g n->row ((List.range (nB g n)).map (bdA g m u n)) (i:Int)=bdA g m u n i:=λ i hi=>by rw[Zbz (by omega)];simp
 obtain⟨p,h1,h2⟩:=Zju m2 m12 (W:=nB g (n+1)+nB g n) (by omega) (X:=(List.range (nB g n)).map (bdA g m u n)) (by omega) (λ i hi=>by rw[hXr i (by omega)];exact⟨ZnS,(Zk5 m2 _ _ _ _).append (ZfC m2 _ _)⟩)
 have hM:Sp m (nB g (n+1)+nB g n) (Gn (λ i=>row ((List.range (nB g n)).map (bdA g m u n)) (i:Int)) ((List.range (nB g n)).map (bdA g m u n)).length)=Sp m (nB g (n+1)+nB g n) (Gn (bdA g m u n) (nB g n)):=by
  congr 1
  funext x
  apply propext
  rw[hX]
  constructor
  ·rintro⟨i,hi,rfl⟩;exact⟨i,hi,congrArg V (hXr i hi)⟩
  ·rintro⟨i,hi,rfl⟩;exact⟨i,hi,(congrArg V (hXr i hi)).symm⟩
 rw[hM]at h2;have h3:=h2.lead (by omega);refine⟨p,?_,h3⟩;have ht:=h3.tab;have hl:=ht.len;have w:wrapI ((nB g (n+1):Int)+(nB g n:Int))=((nB g (n+1)+nB g n:Nat):Int):=by rw[w64 (by omega) (by omega)];omega
 have hSd:=ZoP hg hm hn;rw[Zag.f_eq,wn (j:=n) (by omega),hc2,Option.bind_some,hc,Option.bind_some,hSd,Option.bind_some,w,h1,Option.bind_some,Int.toNat_natCast,Int.toNat_natCast]
 (with_reducible repeat (first|refine go_p ?_|refine go_n ?_|refine go_b ?_|dsimp only))
 rw[<-hA,<-hB]at hl ht w ⊢;obtain⟨F,hF⟩:∃F:Nat->List Int,F=λ j:Nat=>(row p (j:Int)).take A:=⟨_,rfl⟩
 obtain⟨H,hH⟩:∃H:Nat->List Int,H=λ j:Nat=>(row p ((A+j:Nat):Int)).drop A:=⟨_,rfl⟩
 have loop1:=up A (λ k=>Zag.l0 (A:Int) (B:Int) (k:Int) p ((List.range k).map F++List.replicate (A-k) []) (List.replicate B [])) (λ k hk=>by
  have rl:=Zhx F A k (by omega);have hFk:F k=(row p (k:Int)).take A:=by rw[hF]
  rw[Zag.l0_eq,wn (j:=k) (by omega),w];simp only[Int.toNat_natCast];rw[<-hFk]
  by_cases hr:row p (k:Int)=[]
  ·
   have e0:((row p (k:Int)).length:Int)=0:=by rw[hr];rfl
   rw[<-Zgj F A k hk (by rw[hFk,hr];simp)]
   ((with_reducible repeat (first|refine go_p ?_|refine go_n ?_|refine go_b ?_|dsimp only));first|done|(with_reducible rfl)|simp (disch:=omega) only[w64])
  ·
   have hP:=ht.prow (show k<A+B by omega) hr;have e1:=hP.len;rw[<-Zgk F A k hk]
   ((with_reducible repeat (first|refine go_p ?_|refine go_n ?_|refine go_b ?_|dsimp only));first|done|(with_reducible rfl)|simp (disch:=omega) only[w64]))
 have loop2:=up B (λ k=>Zag.l0 (A:Int) (B:Int) ((A+k:Nat):Int) p ((List.range A).map F) ((List.range k).map H++List.replicate (B-k) [])) (λ k hk=>by
  have rl:=Zhx H B k (by omega);have hw:wrapI (((A+k:Nat):Int)-(A:Int))=(k:Int):=by rw[w64 (by omega) (by omega)];omega
  have hHk:H k=(row p ((A+k:Nat):Int)).drop A:=by rw[hH]
  rw[show A+(k+1)=A+k+1 from rfl,Zag.l0_eq,wn (j:=A+k) (by omega),w,hw];simp only[Int.toNat_natCast];rw[<-hHk]
  by_cases hr:row p ((A+k:Nat):Int)=[]
  ·
   have e0:((row p ((A+k:Nat):Int)).length:Int)=0:=by rw[hr];rfl
   rw[<-Zgj H B k hk (by rw[hHk,hr];simp)]
   ((with_reducible repeat (first|refine go_p ?_|refine go_n ?_|refine go_b ?_|dsimp only));first|done|(with_reducible rfl)|simp (disch:=omega) only[w64])
  ·
   have hP:=ht.prow (show A+k<A+B by omega) hr;have e1:=hP.len;rw[<-Zgk H B k hk]
   ((with_reducible repeat (first|refine go_p ?_|refine go_n ?_|refine go_b ?_|dsimp only));first|done|(with_reducible rfl)|simp (disch:=omega) only[w64]))
 rw[List.range_zero,List.map_nil,List.nil_append,Nat.sub_zero,Nat.sub_self,List.replicate_zero,List.append_nil]at loop1;rw[List.range_zero,List.map_nil,List.nil_append,Nat.sub_zero,Nat.add_zero,Nat.sub_self,List.replicate_zero,List.append_nil]at loop2;rw[show ZcC p A B=(List.range B).map H by rw[hH];rfl,show Zef p A=(List.range A).map F by rw[hF];rfl];refine(loop1.trans loop2).trans ?_;rw[Zag.l0_eq,w]
 ((with_reducible repeat (first|refine go_p ?_|refine go_n ?_|refine go_b ?_|dsimp only));first|done|(with_reducible rfl)|simp (disch:=omega) only[w64])
theorem Both_ {g:List (List Int)} (hg:Grp g) {m:Int} {u:List Int} (hm:Mdl g m u) {n:Nat} (hn:n<=3) :
  ∃p q,Za1.f g m u (n:Int)=some (p,q)/\Lead m (nB g n) p (Sp m (nB g n) (bdG g m u n))/\Lead m (nB g n) q (coM g m u n):=by
 have m2:=hm.m2;obtain⟨b1,b2⟩:=nA_bd hg (e:=n) (by omega);have hc:=ZfI hg (d:=(n:Int)) (by omega) (by omega);rw[<-b2]at hc;obtain⟨p,h1,h2⟩:=Znr hg hm hn;rw[Za1.f_eq,h1,Option.bind_some,hc,Option.bind_some,Int.toNat_natCast]
 cases n with
 | zero =>
  refine⟨_,_,?_,(Pst.none (G:=bdG g m u 0) λ g h=>h).lead (by omega),ZcM (by omega) h2⟩
  ((with_reducible repeat (first|refine go_p ?_|refine go_n ?_|refine go_b ?_|dsimp only));first|done|(with_reducible rfl)|simp (disch:=omega) only[w64])
 | succ e =>
  obtain⟨p', h3,h4⟩:=Znr hg hm (n:=e) (by omega);have w:wrapI (((e+1:Nat):Int)-1)=(e:Int):=by rw[w64 (by omega) (by omega)];omega
  have h5:=h4.first (q:=Zef p' (nB g (e+1))) (by omega) (by simp[Zef]) λ j hj=>ZgO hj
  refine⟨Zef p' (nB g (e+1)),_,?_,?_,ZcM (by omega) h2⟩
  ·
   rw[w]
   ((with_reducible repeat (first|refine go_p ?_|refine go_n ?_|refine go_b ?_|dsimp only));first|done|(with_reducible rfl)|simp (disch:=omega) only[w64])
  ·
   have:(λ x=>∃y,Sp m (nB g (e+1)+nB g e) (Gn (bdA g m u e) (nB g e)) y/\∀i,i<nB g (e+1)->m∣y i-x i)=Sp m (nB g (e+1)) (bdG g m u (e+1)):=by
    funext x
    exact propext (ZgB (λ i hi=>ZbX ..) h4 h5.sub x)
   rw[this]at h5;exact h5
noncomputable def allM (g:List (List Int)) (m:Int) (u:List Int) (e:Nat):Vc->Prop:=Sp m (nB g (e+1)+nB g e) (Gn (bdA g m u e) (nB g e))
def Zby (m:Int) (p:List (List Int)) (W:Nat):List Int:=(List.range W).map λ j=>m / dv m p j
theorem Zkg {m:Int} (m2:2<=m) (m12:m<=12) {W:Nat} {p:List (List Int)} (ht:PTab m W p) {j:Nat} (hj:j<W) (hr:row p (j:Int)≠[]):wrapI (Int.tdiv m (T p (j:Int) (j:Int)))=m / dv m p j/\¬ T p (j:Int) (j:Int)=0:=by have hP:=ht.prow hj hr;have p0:=hP.pos;have e:dv m p j=rd (row p (j:Int)) (j:Int):=if_neg hr;have hT:T p (j:Int) (j:Int)=rd (row p (j:Int)) (j:Int):=rfl;rw[hT,e,Zdy (by omega)];have d0:0<=m / rd (row p (j:Int)) (j:Int):=Int.ediv_nonneg (by omega) (by omega);have d1:m / rd (row p (j:Int)) (j:Int)<=m:=Int.ediv_le_self _ (by omega);exact⟨w64 (by omega) (by omega),by omega⟩
theorem Zmo {m:Int} (m2:2<=m) (m12:m<=12) {W:Nat} (hW:W<=100000) {p:List (List Int)} (ht:PTab m W p):ZK.f m p=some (Zby m p W,m,p):=by
 have hl:=ht.len;have l2:∀x:Int,([x]:List Int).length=1:=λ _=>rfl
 have sl:∀k,((List.range k).map λ j=>m / dv m p j).length=k:=λ k=>by simp
 have one:∀k:Nat,row p (k:Int)=[]->m / dv m p k=1:=λ k h=>by rw[show dv m p k=m from if_pos h];exact Int.ediv_self (by omega)
 rw[ZK.f_eq,hl];have loop:=up W (λ k=>ZK.l0 (W:Int) (k:Int) m p ((List.range k).map λ j=>m / dv m p j)) (λ k hk=>by
  have s1:=sl k;rw[ZK.l0_eq,wn (j:=k) (by omega),List.range_succ,List.map_append,List.map_singleton]
  by_cases hr:row p (k:Int)=[]
  ·
   have e0:(row p (k:Int)).length=0:=by rw[hr];rfl
   rw[one k hr]
   (with_reducible repeat (first|refine go_p ?_|refine go_n ?_|refine go_b ?_|dsimp only))
   rw[l2]
   ((with_reducible repeat (first|refine go_p ?_|refine go_n ?_|refine go_b ?_|dsimp only));first|done|(with_reducible rfl)|simp (disch:=omega) only[w64])
  ·
   obtain⟨e1,e2⟩:=Zkg m2 m12 ht hk hr;have hP:=ht.prow hk hr;have pl:=hP.len;rw[e1]
   (with_reducible repeat (first|refine go_p ?_|refine go_n ?_|refine go_b ?_|dsimp only))
   rw[l2]
   ((with_reducible repeat (first|refine go_p ?_|refine go_n ?_|refine go_b ?_|dsimp only));first|done|(with_reducible rfl)|simp (disch:=omega) only[w64]))
 simp only[Int.natCast_zero,List.range_zero,List.map_nil]at loop;rw[loop,ZK.l0_eq]
 (with_reducible repeat (first|refine go_p ?_|refine go_n ?_|refine go_b ?_|dsimp only))
 rfl
theorem Zkh {m:Int} (m2:2<=m) (m12:m<=12) {W:Nat} (hW:W<=100000) {p:List (List Int)} (ht:PTab m W p):ZK.f m p=some (Zby m p W,m,p)/\Zac.f p m=some (Zby m p W):=by
 have hl:=ht.len;have l2:∀x:Int,([x]:List Int).length=1:=λ _=>rfl
 have sl:∀k,((List.range k).map λ j=>m / dv m p j).length=k:=λ k=>by simp
 have one:∀k:Nat,row p (k:Int)=[]->m / dv m p k=1:=λ k h=>by rw[show dv m p k=m from if_pos h];exact Int.ediv_self (by omega)
 constructor
 ·exact Zmo m2 m12 hW ht
 ·
  rw[Zac.f_eq];have loop:=up W (λ k=>Zac.l0 p m (k:Int) ((List.range k).map λ j=>m / dv m p j)) (λ k hk=>by
   have s1:=sl k;rw[Zac.l0_eq,wn (j:=k) (by omega),List.range_succ,List.map_append,List.map_singleton]
   by_cases hr:row p (k:Int)=[]
   ·
    have e0:((row p (k:Int)).length:Int)=0:=by rw[hr];rfl
    rw[one k hr]
    (with_reducible repeat (first|refine go_p ?_|refine go_n ?_|refine go_b ?_|dsimp only))
    rw[l2]
    ((with_reducible repeat (first|refine go_p ?_|refine go_n ?_|refine go_b ?_|dsimp only));first|done|(with_reducible rfl)|simp (disch:=omega) only[w64])
   ·
    obtain⟨e1,e2⟩:=Zkg m2 m12 ht hk hr;have hP:=ht.prow hk hr;have pl:=hP.len;rw[e1]
    (with_reducible repeat (first|refine go_p ?_|refine go_n ?_|refine go_b ?_|dsimp only))
    rw[l2]
    ((with_reducible repeat (first|refine go_p ?_|refine go_n ?_|refine go_b ?_|dsimp only));first|done|(with_reducible rfl)|simp (disch:=omega) only[w64]))
  simp only[Int.natCast_zero,List.range_zero,List.map_nil]at loop;rw[loop,Zac.l0_eq]
  (with_reducible repeat (first|refine go_p ?_|refine go_n ?_|refine go_b ?_|dsimp only))
  rfl
theorem Zgn {m:Int} (m0:0<m) {W:Nat} {p p' : List (List Int)} {M:Vc->Prop} (h:Lead m W p M) (h' : Lead m W p' M):Zby m p W=Zby m p' W:=by
 unfold Zby;refine List.map_congr_left λ j hj=>?_
 rw[ZiS m0 h h' (List.mem_range.1 hj)]
def lc (p:List (List Int)) (t:List Int):Nat->Vc
 | 0=>λ _=>0
 | k+1=>λ i=>lc p t k i+rd t (k:Int)*rd (row p (k:Int)) (i:Int)
theorem Zep (p:List (List Int)) (t:List Int) (k i:Nat):lc p t (k+1) i=lc p t k i+rd t (k:Int)*rd (row p (k:Int)) (i:Int):=rfl
structure Least0 (m:Int) (W k:Nat) (p:List (List Int)) (M:Vc->Prop) (x y t:List Int):Prop where
 len:y.length=W
 ent:AllIn m y
 dif:M λ i=>rd x (i:Int)-rd y (i:Int)
 lt:∀j:Nat,j<k->rd y (j:Int)<dv m p j
 tlen:t.length=W
 tbd:∀j:Nat,j<W->0<=rd t (j:Int)/\rd t (j:Int)<=12
 tnil:∀j:Nat,row p (j:Int)=[]->rd t (j:Int)=0
 tak:∀i:Nat,i<W->m∣rd x (i:Int)-rd y (i:Int)-lc p t k i
 tlt:∀j:Nat,j<W->rd t (j:Int)*rd (row p (j:Int)) (j:Int)<m
theorem Zm2 {p:List (List Int)} {t t' : List Int}:∀k,(∀j:Nat,j<k->rd t (j:Int)=rd t' (j:Int))->lc p t k=lc p t' k:=by
 intro k
 induction k with
 | zero=>intro _;rfl
 | succ k ih =>
  intro h
  funext i
  rw[lc,lc,ih λ j hj=>h j (by omega),h k (by omega)]
theorem Least0.begin {m:Int} {W:Nat} {p:List (List Int)} {M:Vc->Prop} (hM:Lead m W p M) {x:List Int} (hx:x.length=W) (ha:AllIn m x):Least0 m W 0 p M x x (List.replicate W 0) where
 len:=hx
 ent:=ha
 dif:=hM.sub.alike _ _ hM.sub.zero λ i _=>ZaG (by simp)
 lt:=λ j hj=>by omega
 tlen:=List.length_replicate
 tbd:=λ j _=>by rw[ZbV];omega
 tnil:=λ j _=>ZbV _ _
 tak:=λ i _=>ZaG (by simp[lc])
 tlt:=λ j hj=>by have:=ha (j:Int) (by omega) (by omega);rw[ZbV,Int.zero_mul];omega
theorem Least0.skip {m:Int} {W k:Nat} {p:List (List Int)} {M:Vc->Prop} {x y t:List Int} (h:Least0 m W k p M x y t) (hk:k<W) (hr:row p (k:Int)=[]):Least0 m W (k+1) p M x y t:=
  { h with
    lt:=λ j hj=>by
      by_cases e:j=k
      · subst e
        rw[show dv m p j=m from if_pos hr];exact(h.ent j (by omega) (by rw[h.len];omega)).2
      · exact h.lt j (by omega)
    tak:=λ i hi=>by rw[Zep,h.tnil k hr,Int.zero_mul,Int.add_zero];exact h.tak i hi }
theorem Least0.take {m:Int} {W k:Nat} {p:List (List Int)} {M:Vc->Prop} {x y t:List Int} (m2:2<=m) (m12:m<=12) (hM:Lead m W p M) (h:Least0 m W k p M x y t) (hk:k<W) (hr:row p (k:Int)≠[]) :
  Least0 m W (k+1) p M x (mix m 1 y (-(rd y (k:Int) / rd (row p (k:Int)) (k:Int))) (row p (k:Int))) (t.set k (rd y (k:Int) / rd (row p (k:Int)) (k:Int))):=by
 have hP:=hM.tab.prow hk hr;have p0:=hP.pos;have p1:=hP.lt;have yl:=h.len;have tl:=h.tlen;obtain⟨y0,y1⟩:=h.ent k (by omega) (by omega);obtain⟨q,hq⟩:∃q,q=rd y (k:Int) / rd (row p (k:Int)) (k:Int):=⟨_,rfl⟩
 rw[<-hq];have hmod:=Int.mul_ediv_add_emod (rd y (k:Int)) (rd (row p (k:Int)) (k:Int));rw[<-hq]at hmod;have r0:=Int.emod_nonneg (rd y (k:Int)) (show rd (row p (k:Int)) (k:Int)≠0 by omega);have r1:=Int.emod_lt_of_pos (rd y (k:Int)) p0;have q0:0<=q:=by rw[hq];exact Int.ediv_nonneg y0 (by omega)
 have q1:q<=rd y (k:Int):=by rw[hq];exact Int.ediv_le_self _ y0
 have hy:∀i:Nat,i<W->m∣1*rd y (i:Int)+(-q)*rd (row p (k:Int)) (i:Int)-rd (mix m 1 y (-q) (row p (k:Int))) (i:Int):=λ i hi=>Zb1 (by omega)
 refine⟨by rw[Zbl];exact yl,Zcp (by omega),?_,λ j hj=>?_,by rw[List.length_set];exact tl,λ j hj=>?_,λ j hn=>?_,λ i hi=>?_,λ j hj=>?_⟩
 ·
  refine hM.sub.alike _ _ (hM.sub.lin _ _ h.dif (hM.own k hk hr) q) λ i hi=>?_
  obtain⟨z,hz⟩:=hy i hi;refine⟨-z,?_⟩;rw[Int.mul_neg,<-hz,Int.neg_mul];show rd x (i:Int)-rd y (i:Int)+q*rd (row p (k:Int)) (i:Int)-(rd x (i:Int)-rd (mix m 1 y (-q) (row p (k:Int))) (i:Int))=_;omega
 ·
  by_cases e:j=k
  ·subst e;rw[ZbT (by omega),show dv m p j=rd (row p (j:Int)) (j:Int)from if_neg hr,show 1*rd y (j:Int) + -q*rd (row p (j:Int)) (j:Int)=rd y (j:Int)%rd (row p (j:Int)) (j:Int)by rw[Int.neg_mul,Int.mul_comm q];omega,Int.emod_eq_of_lt r0 (by omega)];exact r1
  ·obtain⟨a0,a1⟩:=h.ent j (by omega) (by omega);rw[ZbT (by omega),hP.zero j (by omega),Int.mul_zero,Int.add_zero,Int.one_mul,Int.emod_eq_of_lt a0 a1];exact h.lt j (by omega)
 ·
  by_cases e:j=k
  ·subst e;rw[Zbw (by omega)];omega
  ·rw[ZbE e];exact h.tbd j hj
 ·
  have e:j≠k:=λ e=>hr (e ▸ hn)
  rw[ZbE e];exact h.tnil j hn
 ·rw[Zep,Zbw (by omega),Zm2 k λ j hj=>ZbE (show j≠k by omega)];obtain⟨z,hz⟩:=hy i hi;obtain⟨z', hz'⟩:=h.tak i hi;refine⟨z' + z,?_⟩;rw[Int.mul_add,<-hz,<-hz', Int.neg_mul];omega
 ·
  by_cases e:j=k
  ·subst e;rw[Zbw (by omega),Int.mul_comm];omega
  ·rw[ZbE e];exact h.tlt j hj
theorem Least0.fin {m:Int} {W:Nat} {p:List (List Int)} {M:Vc->Prop} {x y t:List Int} (h:Least0 m W W p M x y t):Least m W p M x y:=⟨h.len,h.ent,h.dif,h.lt⟩
theorem Zj2 {m:Int} {y r:List Int} (ha:AllIn m y):mix m 1 y (-0) r=y:=by
 refine ZgA (Zbl ..) λ i i0 i1=>?_
 rw[Zbl]at i1;obtain⟨n,rfl⟩:=Int.eq_ofNat_of_zero_le i0;obtain⟨a0,a1⟩:=ha n (by omega) i1;rw[ZbT (by omega),show(1:Int)*rd y (n:Int) + -0*rd r (n:Int)=rd y (n:Int)by simp];exact Int.emod_eq_of_lt a0 a1
def Zr (x:List Int):Prop:=∀i:Int,0<=i->i<x.length->rd x i=0
theorem Least.zero_iff {m:Int} (m0:0<m) {W:Nat} {p:List (List Int)} {M:Vc->Prop} (hM:Lead m W p M) {x y:List Int} (h:Least m W p M x y):Zr y↔M (V x):=by
 have yl:=h.len
 constructor
 ·
  intro hz;refine hM.sub.alike _ _ h.dif λ i hi=>?_
  rw[hz i (by omega) (by omega)];exact ZaG (by simp[V])
 ·
  intro hx;have hz:Least m W p M x (List.replicate W 0):=⟨List.length_replicate,ZhG m0 W,hM.sub.alike _ _ hx λ i hi=>ZaG (by rw[ZbV];simp[V]),λ j hj=>by rw[ZbV];exact(dv_bd m0 hM.tab hj).1⟩
  rw[h.same m0 hM hM hz];exact λ i _ _=>ZbV _ _
theorem rank {g:List (List Int)} (hl:g.length<=maxLen) (hr:∀r∈g,r.length<=maxLen) (m:Int) (u:List Int) (hu:u.length<=maxLen) (n:Int) :
  (∃k:Nat,n=(k:Int)/\k<=3/\Grp g/\Mdl g m u/\nB g k<=49/\ZaC.f g m u n=some 0/\ZaR.f g m u n=some 0) \/
  ∃c:Int,¬ c=0/\ZaC.f g m u n=some c/\ZaR.f g m u n=some c:=by
 have hA:=ZiG g hl hr m u hu;have hS:=Is_ g;rw[ZaC.f_eq,ZaR.f_eq]
 by_cases h:GM g m u
 rotate_left
 ·
  rw[B_neg h]at hA;have hG:ZaF.f g m u n=some 1:=by rw[ZaF.f_eq];((with_reducible repeat (first|refine go_p ?_|refine go_n ?_|refine go_b ?_|dsimp only));first|done|(with_reducible rfl)|simp (disch:=omega) only[w64])
  refine .inr ⟨1,by omega,by((with_reducible repeat (first|refine go_p ?_|refine go_n ?_|refine go_b ?_|dsimp only));first|done|(with_reducible rfl)|simp (disch:=omega) only[w64]),?_⟩
  by_cases h1:Grp g
  ·
   have hM:=Is02 h1 m u hu;rw[B_neg λ k=>h ⟨h1,k⟩]at hM
   ((with_reducible repeat (first|refine go_p ?_|refine go_n ?_|refine go_b ?_|dsimp only));first|done|(with_reducible rfl)|simp (disch:=omega) only[w64])
  ·((with_reducible repeat (first|refine go_p ?_|refine go_n ?_|refine go_b ?_|dsimp only));first|done|(with_reducible rfl)|simp (disch:=omega) only[w64])
 have hM:=Is02 h.1 m u hu;rw[B_pos h]at hA;rw[B_pos h.1]at hS;rw[B_pos h.2]at hM;have hD:=ZmY n;have hI:=In_ n 0 3
 by_cases h2:0<=n/\n<=3
 rotate_left
 ·
  rw[B_neg h2]at hD hI;have hG:ZaF.f g m u n=some 2:=by rw[ZaF.f_eq];((with_reducible repeat (first|refine go_p ?_|refine go_n ?_|refine go_b ?_|dsimp only));first|done|(with_reducible rfl)|simp (disch:=omega) only[w64])
  exact .inr ⟨2,by omega,by((with_reducible repeat (first|refine go_p ?_|refine go_n ?_|refine go_b ?_|dsimp only));first|done|(with_reducible rfl)|simp (disch:=omega) only[w64]),by((with_reducible repeat (first|refine go_p ?_|refine go_n ?_|refine go_b ?_|dsimp only));first|done|(with_reducible rfl)|simp (disch:=omega) only[w64])⟩
 rw[B_pos h2]at hD hI;have hG:ZaF.f g m u n=some 0:=by rw[ZaF.f_eq];((with_reducible repeat (first|refine go_p ?_|refine go_n ?_|refine go_b ?_|dsimp only));first|done|(with_reducible rfl)|simp (disch:=omega) only[w64])
 have hc:=Zgr h.1 (d:=n) h2.1 (by omega);have hC:=ZfI h.1 (d:=n) h2.1 (by omega);obtain⟨k,rfl⟩:=Int.eq_ofNat_of_zero_le h2.1;obtain⟨b1,b2⟩:=nA_bd h.1 (e:=k) (by omega);have hR:Za9.f g (k:Int)=some (decide (cells g (k:Int)<=49)):=by rw[Za9.f_eq,hc];rfl
 by_cases h3:cells g (k:Int)<=49
 ·
  refine .inl ⟨k,rfl,by omega,h.1,h.2,by omega,?_,?_⟩
  ·
   rw[decide_eq_true h3]at hR
   ((with_reducible repeat (first|refine go_p ?_|refine go_n ?_|refine go_b ?_|dsimp only));first|done|(with_reducible rfl)|simp (disch:=omega) only[w64])
  ·((with_reducible repeat (first|refine go_p ?_|refine go_n ?_|refine go_b ?_|dsimp only));first|done|(with_reducible rfl)|simp (disch:=omega) only[w64])
 ·
  refine .inr ⟨3,by omega,?_,?_⟩
  ·
   rw[decide_eq_false h3]at hR
   ((with_reducible repeat (first|refine go_p ?_|refine go_n ?_|refine go_b ?_|dsimp only));first|done|(with_reducible rfl)|simp (disch:=omega) only[w64])
  ·((with_reducible repeat (first|refine go_p ?_|refine go_n ?_|refine go_b ?_|dsimp only));first|done|(with_reducible rfl)|simp (disch:=omega) only[w64])
end Go.Proofs.YtdamfbighdkcbaaGreat.V
