/- What the proof of the law InvariantsOf stands on, part 9: words, each Go function's Lean function, and that the Go code comes to its answers; no condition. (Packed by wip/myprint/pack.py out of what the kit's printer wrote, its words among it, partly by our patches of it, and out of texts of this session.) -/
import Derived.Test.YtdamfbighdkcbaaGreatKInvariantsOf3
import Derived.Test.YtdamfbighdkcbaaGreatKInvariantsOf4
import Derived.Test.YtdamfbighdkcbaaGreatKInvariantsOf7
import Derived.Test.YtdamfbighdkcbaaGreatKInvariantsOf8
set_option linter.unusedVariables false
set_option linter.unusedSimpArgs false
set_option maxHeartbeats 4000000
set_option maxRecDepth 20000
namespace Go.Proofs.YtdamfbighdkcbaaGreat.V
open Go.RowKit Go.Proofs.YtdamfbighdkcbaaGreat.D
def nn (p:List (List Int)) (W:Nat):List Nat:=(List.range W).filter fun j=>decide (row p (j:Int)≠[])
def gen (p:List (List Int)) (at_:List Nat):Nat→Vc:=fun k=>V (row p ((at_.getD k 0:Nat):Int))
def pick (at_:List Nat) (t:List Int):List Int:=at_.map fun j:Nat=>rd t (j:Int)
theorem Zec (at_:List Nat) (t:List Int):(pick at_ t).length=at_.length:=List.length_map ..
theorem ZdS {at_:List Nat} {t:List Int} {k:Nat} (h:k < at_.length):rd (pick at_ t) (k:Int)=rd t ((at_.getD k 0:Nat):Int):=by
 rw[Zbi (by rw[Zec];exact h),List.getD_eq_getElem?_getD,List.getElem?_eq_getElem h]
 simp[pick]
theorem ZmH {p:List (List Int)} {W j:Nat}:j∈nn p W↔j < W∧row p (j:Int)≠[]:=by
 rw[nn,List.mem_filter,List.mem_range,decide_eq_true_iff]
theorem Zdn (p:List (List Int)) (W:Nat):nn p (W+1)=nn p W++if row p (W:Int)≠[]then [W]else []:=by
 rw[nn,List.range_succ,List.filter_append,←nn]
 congr 1
 by_cases h:row p (W:Int)≠[]
 ·
  rw[if_pos h];simp[h]
 ·
  rw[if_neg h];simp[Classical.not_not.1 h]
theorem nn_at {p:List (List Int)} {W k:Nat} (h:k < (nn p W).length):(nn p W).getD k 0 < W∧row p (((nn p W).getD k 0:Nat):Int)≠[]:=by
 rw[List.getD_eq_getElem?_getD,List.getElem?_eq_getElem h]
 exact ZmH.1 (List.getElem_mem h)
theorem nn_lt {p:List (List Int)} {W k l:Nat} (h:k < l) (hl:l < (nn p W).length):(nn p W).getD k 0 < (nn p W).getD l 0:=by
 have hp:(nn p W).Pairwise (· < ·):=List.Pairwise.filter _ (List.pairwise_lt_range (n:=W))
 have:=(List.pairwise_iff_getElem.1 hp) k l (by omega) hl h
 rwa[List.getD_eq_getElem?_getD,List.getD_eq_getElem?_getD,List.getElem?_eq_getElem (show k < (nn p W).length by omega),List.getElem?_eq_getElem hl]
theorem Zlm {m:Int} {W:Nat} {p:List (List Int)} (ht:PTab m W p) {j:Nat} (hj:j < W):row p (j:Int)≠[]↔dv m p j < m:=by
 by_cases h:row p (j:Int)=[]
 ·
  rw[show dv m p j=m from if_pos h];exact⟨fun k=>absurd h k,fun k=>by omega⟩
 ·
  rw[show dv m p j=rd (row p (j:Int)) (j:Int)from if_neg h];exact⟨fun _=>(ht.prow hj h).lt,fun _=>h⟩
theorem Znj {m:Int} (m0:0 < m) {W:Nat} {p p' : List (List Int)} {M:Vc→Prop} (h:Lead m W p M) (h' : Lead m W p' M):nn p W=nn p' W:=by
 refine List.filter_congr fun j hj => ?_
 have hj:=List.mem_range.1 hj
 refine decide_eq_decide.2 ?_
 rw[Zlm h.tab hj,Zlm h'.tab hj,ZkI m0 h h' hj]
theorem Zg4 {G G' : Nat→Vc} {c c' : Vc}:∀n,(∀k,k < n→c k=c' k∧G k=G' k)→cmb G c n=cmb G' c' n
 | 0,_=>rfl
 | n+1,h=>by
  funext i
  rw[cmb,cmb,Zg4 n fun k hk=>h k (by omega),(h n (by omega)).1,(h n (by omega)).2]
theorem Zhj (p:List (List Int)) (t:List Int):∀W,lc p t W=cmb (gen p (nn p W)) (V (pick (nn p W) t)) (nn p W).length
 | 0=>rfl
 | W + 1=>by
  have ih:=Zhj p t W
  rw[Zdn]
  by_cases h:row p (W:Int)≠[]
  ·
   rw[if_pos h,List.length_append,List.length_singleton]
   funext i
   rw[ZdO,cmb,ih]
   have e1:cmb (gen p (nn p W)) (V (pick (nn p W) t)) (nn p W).length=cmb (gen p (nn p W++[W])) (V (pick (nn p W++[W]) t)) (nn p W).length:=Zg4 _ fun k hk=>by
    have e:(nn p W++[W]).getD k 0=(nn p W).getD k 0:=by
     rw[List.getD_eq_getElem?_getD,List.getD_eq_getElem?_getD,List.getElem?_append_left hk]
    constructor
    ·
     show rd _ (k:Int)=rd _ (k:Int)
     rw[ZdS hk,ZdS (by rw[List.length_append];omega),e]
    ·
     rw[gen,gen,e]
   have e2:(nn p W++[W]).getD (nn p W).length 0=W:=by
    rw[List.getD_eq_getElem?_getD,List.getElem?_append_right (Nat.le_refl _),Nat.sub_self];rfl
   have e3:V (pick (nn p W++[W]) t) (nn p W).length=rd t (W:Int):=by
    show rd _ (((nn p W).length:Nat):Int)=_
    rw[ZdS (by simp),e2]
   rw[e1,e3,gen,e2]
   rfl
  ·
   rw[if_neg h,List.append_nil]
   funext i
   rw[ZdO,ih,Classical.not_not.1 h,show rd ([]:List Int) (i:Int)=0 by rw[ZcE];rfl]
   omega
theorem Sub.cmb {m:Int} {W:Nat} {M:Vc→Prop} (hM:Sub m W M) {G:Nat→Vc} {c:Vc}:∀n,(∀k,k < n→M (G k))→M (cmb G c n)
 | 0,_=>hM.zero
 | n+1,h=>hM.lin _ _ (Sub.cmb hM n fun k hk=>h k (by omega)) (h n (by omega)) _
theorem Zd4 {m:Int} (m2:2≤m) (m12:m≤12) {W:Nat} {p:List (List Int)} {M:Vc→Prop} (hM:Lead m W p M) (x:Vc):M x↔∃c,∀i,i < W→m∣cmb (gen p (nn p W)) c (nn p W).length i - x i:=by
 have m0:0 < m:=by omega
 constructor
 ·
  intro hx
  have hl:=ZeO m W x
  have key:∀k,k≤W→∃y t,Least0 m W k p M (nf m W x) y t:=by
   intro k
   induction k with
   | zero=>exact fun _=>⟨_,_,Least0.begin hM hl (nf_in m0 W x)⟩
   | succ k ih =>
    intro hk
    obtain⟨y,t,h⟩:=ih (by omega)
    by_cases hr:row p (k:Int)=[]
    ·
     exact⟨_,_,h.skip (by omega) hr⟩
    ·
     exact⟨_,_,h.take m2 m12 hM (by omega) hr⟩
  obtain⟨y,t,h⟩:=key W (Nat.le_refl _)
  have hz:Zr y:=(h.fin.zero_iff m0 hM).2 (hM.sub.alike _ _ hx fun i hi=>ZcL hi)
  refine⟨V (pick (nn p W) t),fun i hi => ?_⟩
  have h1:=h.tak i hi
  have h2:=ZcL (m:=m) (x:=x) hi
  rw[hz i (by omega) (by have:=h.len;omega),Zhj]at h1
  have:=Int.dvd_add h1 h2
  rw[show V (nf m W x) i=rd (nf m W x) (i:Int)from rfl,show ∀a b c:Int,a - 0 - b+(c - a)=c - b from fun a b c=>by omega]at this
  exact Zbo this
 ·
  rintro⟨c,hc⟩
  exact hM.sub.alike _ _ (hM.sub.cmb _ fun k hk=>hM.own _ (nn_at hk).1 (nn_at hk).2) hc
theorem ZmY {m:Int} {G:Nat→Vc} {c:Vc} {k a:Nat}:∀r,k < r→(∀i,i < r→i≠k→m∣c i*G i a)→m∣cmb G c r a - c k*G k a:=by
 have zero:∀r,(∀i,i < r→m∣c i*G i a)→m∣cmb G c r a:=by
  intro r
  induction r with
  | zero=>exact fun _=>Int.dvd_zero m
  | succ r ih=>exact fun h=>Int.dvd_add (ih fun i hi=>h i (by omega)) (h r (by omega))
 intro r
 induction r with
 | zero=>intro h;omega
 | succ r ih =>
  intro hk h
  rw[cmb]
  by_cases e:k=r
  ·
   subst e
   rw[show ∀a b:Int,a+b - b=a from fun a b=>by omega]
   exact zero k fun i hi=>h i (by omega) (by omega)
  ·
   have h1:=ih (by omega) fun i hi hne=>h i (by omega) hne
   have:=Int.dvd_add h1 (h r (by omega) (fun e' => e e'.symm))
   rwa[show ∀a b c:Int,a - b+c=a+c - b from fun a b c=>by omega]at this
theorem Zkq (G T:Nat→Vc) (e:Vc) (r i:Nat):∀n,cmb G (cmb T e n) r i=cmb (fun l=>cmb G (T l) r) e n i
 | 0=>by
  have:=ZbV G (fun _=>0) (fun _=>0) (-1) i r
  simp only[Int.mul_zero,Int.add_zero]at this
  show cmb G (fun _=>0) r i=0
  omega
 | n+1=>by
  show cmb G (fun i=>cmb T e n i+e n*T n i) r i=_
  rw[ZbV,Zkq G T e r i n]
  rfl
theorem ZiJ {m:Int} {G G' : Nat→Vc} {c:Vc} {i:Nat}:∀n,(∀k,k < n→m∣G k i - G' k i)→m∣cmb G c n i - cmb G' c n i
 | 0,_=>Zaw rfl
 | n+1,h=>by
  have h1:=ZiJ (c:=c) n fun k hk=>h k (by omega)
  have h2:=Int.dvd_mul_of_dvd_right (b:=c n) (h n (by omega))
  have:=Int.dvd_add h1 h2
  rw[Int.mul_sub,show ∀a b c d:Int,a - b+(c - d)=a+c - (b+d)from fun a b c d=>by omega]at this
  exact this
theorem ZnQ {m:Int} (m0:0 < m) {W:Nat} {p:List (List Int)} (ht:PTab m W p) {S:Vc→Prop} (hS:Sub m (nn p W).length S) {R:Nat→Vc}
  (hR:∀k,k < (nn p W).length→S (R k)∧(∀i,i < k→R k i=0)∧m∣R k k - m / gen p (nn p W) k ((nn p W).getD k 0)∧∀i,i < W→m∣cmb (gen p (nn p W)) (R k) (nn p W).length i) :
  ∀(n:Nat) (c:Vc),n≤(nn p W).length→(∀i,i < W→m∣cmb (gen p (nn p W)) c (nn p W).length i)→(∀i,i < (nn p W).length - n→m∣c i)→S c:=by
 intro n
 induction n with
 | zero=>exact fun c _ _ hz=>hS.alike _ _ hS.zero fun i hi=>Zbo (by rw[Int.sub_zero];exact hz i (by omega))
 | succ n ih =>
  intro c hn hc hz
  obtain⟨k,hk⟩:∃k,k=(nn p W).length - (n+1):=⟨_,rfl⟩
  have hkr:k < (nn p W).length:=by omega
  obtain⟨h1,h2,h3,h4⟩:=hR k hkr
  obtain⟨a1,a2⟩:=nn_at hkr
  have hP:=ht.prow a1 a2
  have hd:gen p (nn p W) k ((nn p W).getD k 0)=rd (row p (((nn p W).getD k 0:Nat):Int)) (((nn p W).getD k 0:Nat):Int):=rfl
  obtain⟨q,hq⟩:=hP.dvd
  have p0:=hP.pos
  have hmq:m / gen p (nn p W) k ((nn p W).getD k 0)=q:=by rw[hd,hq];exact Int.mul_ediv_cancel_left _ (by omega)
  have hone:=ZmY (m:=m) (G:=gen p (nn p W)) (c:=c) (k:=k) (a:=(nn p W).getD k 0) (nn p W).length hkr fun i hi hne=>by
   by_cases hik:i < k
   ·
    exact Int.dvd_mul_of_dvd_left (hz i (by omega))
   ·
    obtain⟨b1,b2⟩:=nn_at hi
    have:gen p (nn p W) i ((nn p W).getD k 0)=0:=(ht.prow b1 b2).zero _ (nn_lt (show k < i by omega) hi)
    rw[this,Int.mul_zero]
    exact Int.dvd_zero m
  have hck:m∣c k*gen p (nn p W) k ((nn p W).getD k 0):=by
   have:=Int.dvd_sub (hc _ a1) hone
   rwa[show ∀a b:Int,a - (a - b)=b from fun a b=>by omega]at this
  obtain⟨s,hs⟩:q∣c k:=by
   obtain⟨s,hs⟩:=hck
   refine⟨s,Int.eq_of_mul_eq_mul_left (show rd (row p (((nn p W).getD k 0:Nat):Int)) (((nn p W).getD k 0:Nat):Int)≠0 by omega) ?_⟩
   rw[hd]at hs
   rw[Int.mul_comm,hs,←Int.mul_assoc,←hq]
  have key:=ih (fun i=>c i+(-s)*R k i) (by omega) (fun i hi=>by
   rw[ZbV]
   exact Int.dvd_add (hc i hi) (Int.dvd_mul_of_dvd_right (h4 i hi))) fun i hi=>by
   by_cases e:i=k
   ·
    subst e
    rw[hmq]at h3
    have:=Int.dvd_mul_of_dvd_right (b := -s) h3
    show m∣c i + -s*R i i
    rw[hs,Int.mul_comm q s]
    rwa[Int.mul_sub,Int.neg_mul s q,show ∀a b:Int,a - -b=b+a from fun a b=>by omega]at this
   ·
    have hi' : i < k:=by omega
    show m∣c i + -s*R k i
    rw[h2 i hi', Int.mul_zero,Int.add_zero]
    exact hz i (by omega)
  refine hS.alike _ _ (hS.lin _ _ key h1 s) fun i _=>Zaw ?_
  rw[Int.neg_mul]
  omega
theorem Znr {m:Int} (m2:2≤m) (m12:m≤12) {W:Nat} {p pb:List (List Int)} (ht:PTab m W p) {Bs:Vc→Prop} (hB:Lead m W pb Bs) {S:Vc→Prop} (hS:Sub m (nn p W).length S) {R T:Nat→Vc}
  (hR:∀k,k < (nn p W).length→S (R k)∧(∀i,i < k→R k i=0)∧m∣R k k - m / gen p (nn p W) k ((nn p W).getD k 0)∧∀i,i < W→m∣cmb (gen p (nn p W)) (R k) (nn p W).length i)
  (hT:∀l,l < (nn pb W).length→S (T l)∧∀i,i < W→m∣cmb (gen p (nn p W)) (T l) (nn p W).length i - gen pb (nn pb W) l i)
  (hle:∀c,S c→Bs (cmb (gen p (nn p W)) c (nn p W).length)) (c:Vc):S c↔Bs (cmb (gen p (nn p W)) c (nn p W).length):=by
 refine⟨hle c,fun h => ?_⟩
 obtain⟨e,he⟩:=(Zd4 m2 m12 hB _).1 h
 have hc' : S (cmb T e (nn pb W).length):=hS.cmb _ fun l hl=>(hT l hl).1
 have key:=ZnQ (by omega) ht hS hR (nn p W).length (fun i=>c i+(-1)*cmb T e (nn pb W).length i) (Nat.le_refl _) (fun i hi=>by
  rw[ZbV,Zkq]
  have k1:=ZiJ (m:=m) (c:=e) (i:=i) (G:=fun l=>cmb (gen p (nn p W)) (T l) (nn p W).length) (G' := gen pb (nn pb W)) (nn pb W).length fun l hl=>(hT l hl).2 i hi
  have k2:=he i hi
  have:=Int.dvd_add k1 k2
  rw[show ∀a b c:Int,a - b+(b - c)=a - c from fun a b c=>by omega]at this
  have:=Zbo this
  rwa[show ∀a b:Int,a - b=a + -1*b from fun a b=>by omega]at this) fun i hi=>by omega
 refine hS.alike _ _ (hS.lin _ _ key hc' 1) fun i _=>Zaw ?_
 omega
end Go.Proofs.YtdamfbighdkcbaaGreat.V
namespace Go.Proofs.YtdamfbighdkcbaaGreat.V
open Go.RowKit Go.Proofs.YtdamfbighdkcbaaGreat.D Go.Proofs.YtdamfbighdkcbaaGreat.P
def Rok (m:Int) (W:Nat) (r:List (List Int)):Prop:=∀i:Nat,i < r.length→(row r (i:Int)).length=W∧AllIn m (row r (i:Int))
theorem Rok.set {m:Int} {W:Nat} {r:List (List Int)} (h:Rok m W r) {j:Nat} {x:List Int} (hx:x.length=W∧AllIn m x):Rok m W (r.set j x):=fun i hi=>by
 rw[List.length_set]at hi
 by_cases e:i=j
 ·
  subst e;rw[ZaD hi];exact hx
 ·
  rw[Za5 e];exact h i hi
theorem Zbe (r:List (List Int)) (j:Nat):r.set j (row r (j:Int))=r:=by
 by_cases h:j < r.length
 ·
  rw[Zbf h];exact List.set_getElem_self h
 ·
  exact List.set_eq_of_length_le (by omega)
theorem Rok.bd {m:Int} {W:Nat} {r:List (List Int)} (h:Rok m W r) {i k:Nat} (hi:i < r.length) (hk:k < W):0≤rd (row r (i:Int)) (k:Int)∧rd (row r (i:Int)) (k:Int) < m:=(h i hi).2 k (by omega) (by have:=(h i hi).1;omega)
theorem Zbu {m:Int} {W:Nat} {r:List (List Int)} {i:Nat} (h:i < r.length):Mx m W r (V (row r (i:Int))):=ZnI (Zey (by omega) (by omega))
theorem Mx_same' {m:Int} {W:Nat} {r r' : List (List Int)} (hl:r'.length=r.length) (h:∀i:Nat,i < r.length→Mx m W r' (V (row r (i:Int)))) (h' : ∀i:Nat,i < r.length→Mx m W r (V (row r' (i:Int)))):Eqd m W (Mx m W r) (Mx m W r'):=by
 refine Zc9 (fun x hx => ?_) fun x hx => ?_
 ·
  obtain⟨i,i0,i1,rfl⟩:=ZcW hx
  obtain⟨n,rfl⟩:=Int.eq_ofNat_of_zero_le i0
  exact h n (by omega)
 ·
  obtain⟨i,i0,i1,rfl⟩:=ZcW hx
  obtain⟨n,rfl⟩:=Int.eq_ofNat_of_zero_le i0
  exact h' n (by omega)
theorem mix_V {m:Int} (m0:0 < m) {W:Nat} {M:Vc→Prop} {x y:Int} {a b:List Int} (ha:a.length=W) (hA:Sub m W M) (h1:M (V a)) (h2:M (V b)):M (V (mix m x a y b)):=by
 refine hA.alike _ _ (hA.lin _ _ (hA.lin _ _ hA.zero h1 x) h2 y) fun i hi => ?_
 have:=ZbC (m:=m) (x:=x) (a:=a) (y:=y) (b:=b) (i:=i) (by omega)
 show m∣0+x*rd a (i:Int)+y*rd b (i:Int) - rd (mix m x a y b) (i:Int)
 rwa[Int.zero_add]
theorem Zll {m:Int} (m0:0 < m) {W:Nat} {r:List (List Int)} (h:Rok m W r) {i j:Nat} (hi:i < r.length) (hj:j < r.length) (hij:i≠j) (y:Int):Eqd m W (Mx m W r) (Mx m W (r.set i (mix m 1 (row r (i:Int)) y (row r (j:Int))))):=by
 have hl:(r.set i (mix m 1 (row r (i:Int)) y (row r (j:Int)))).length=r.length:=List.length_set
 have hjr:Mx m W (r.set i (mix m 1 (row r (i:Int)) y (row r (j:Int)))) (V (row r (j:Int))):=by
  have:=Zbu (m:=m) (W:=W) (r:=r.set i (mix m 1 (row r (i:Int)) y (row r (j:Int)))) (i:=j) (by omega)
  rwa[Za5 (Ne.symm hij)]at this
 refine Mx_same' hl (fun k hk => ?_) fun k hk => ?_
 ·
  by_cases e:k=i
  ·
   subst e
   have h1:=Zbu (m:=m) (W:=W) (r:=r.set k (mix m 1 (row r (k:Int)) y (row r (j:Int)))) (i:=k) (by omega)
   rw[ZaD hk]at h1
   refine Sp.two (a:=1) (b := -y) h1 hjr fun i hi => ?_
   have:=ZbC (m:=m) (x:=1) (a:=row r (k:Int)) (y:=y) (b:=row r (j:Int)) (i:=i) (by have:=(h k hk).1;omega)
   obtain⟨q,hq⟩:=this
   refine⟨-q,?_⟩
   rw[Int.mul_neg,←hq,Int.neg_mul]
   show 1*rd (mix m 1 (row r (k:Int)) y (row r (j:Int))) (i:Int) + -(y*rd (row r (j:Int)) (i:Int)) - rd (row r (k:Int)) (i:Int)=_
   omega
  ·
   have:=Zbu (m:=m) (W:=W) (r:=r.set i (mix m 1 (row r (i:Int)) y (row r (j:Int)))) (i:=k) (by omega)
   rwa[Za5 e]at this
 ·
  by_cases e:k=i
  ·
   subst e
   rw[ZaD hk]
   exact mix_V m0 (h k hk).1 Sp.sub (Zbu hk) (Zbu hj)
  ·
   rw[Za5 e];exact Zbu hk
theorem ZgG {m:Int} (m0:0 < m) {W:Nat} {r:List (List Int)} (h:Rok m W r) {i:Nat} (hi:i < r.length) {u v:Int} (huv:m∣u*v - 1) (b:List Int):Eqd m W (Mx m W r) (Mx m W (r.set i (mix m u (row r (i:Int)) 0 b))):=by
 have hl:(r.set i (mix m u (row r (i:Int)) 0 b)).length=r.length:=List.length_set
 refine Mx_same' hl (fun k hk => ?_) fun k hk => ?_
 ·
  by_cases e:k=i
  ·
   subst e
   have h1:=Zbu (m:=m) (W:=W) (r:=r.set k (mix m u (row r (k:Int)) 0 b)) (i:=k) (by omega)
   rw[ZaD hk]at h1
   refine .alike (h1.mul v) fun i hi => ?_
   have:=ZbC (m:=m) (x:=u) (a:=row r (k:Int)) (y:=0) (b:=b) (i:=i) (by have:=(h k hk).1;omega)
   obtain⟨q,hq⟩:=this
   obtain⟨s,hs⟩:=huv
   refine⟨-(v*q)+s*rd (row r (k:Int)) (i:Int),?_⟩
   show v*rd (mix m u (row r (k:Int)) 0 b) (i:Int) - rd (row r (k:Int)) (i:Int)=_
   have e1:v*(u*rd (row r (k:Int)) (i:Int)+0*rd b (i:Int) - rd (mix m u (row r (k:Int)) 0 b) (i:Int))=v*(m*q):=by rw[hq]
   have e2:(u*v - 1)*rd (row r (k:Int)) (i:Int)=m*s*rd (row r (k:Int)) (i:Int):=by rw[hs]
   rw[Int.zero_mul,Int.add_zero,Int.mul_sub,←Int.mul_assoc]at e1
   rw[Int.sub_mul,Int.one_mul,Int.mul_comm u v]at e2
   rw[Int.mul_add,Int.mul_neg,Int.mul_left_comm m v q,←Int.mul_assoc m s]
   omega
  ·
   have:=Zbu (m:=m) (W:=W) (r:=r.set i (mix m u (row r (i:Int)) 0 b)) (i:=k) (by omega)
   rwa[Za5 e]at this
 ·
  by_cases e:k=i
  ·
   subst e
   rw[ZaD hk]
   refine .alike ((Zbu (m:=m) (W:=W) hk).mul u) fun i hi => ?_
   have:=ZbC (m:=m) (x:=u) (a:=row r (k:Int)) (y:=0) (b:=b) (i:=i) (by have:=(h k hk).1;omega)
   rwa[Int.zero_mul,Int.add_zero]at this
  ·
   rw[Za5 e];exact Zbu hk
theorem Zjf {m:Int} {W:Nat} {r:List (List Int)} {i j:Nat} (hi:i < r.length) (hj:j < r.length):Eqd m W (Mx m W r) (Mx m W ((r.set i (row r (j:Int))).set j (row r (i:Int)))):=by
 have hl:((r.set i (row r (j:Int))).set j (row r (i:Int))).length=r.length:=by rw[List.length_set,List.length_set]
 have hr:∀k:Nat,row ((r.set i (row r (j:Int))).set j (row r (i:Int))) (k:Int)=if k=j then row r (i:Int)else if k=i then row r (j:Int)else row r (k:Int):=fun k=>by
  by_cases e:k=j
  ·
   subst e;rw[if_pos rfl,ZaD (by rw[List.length_set];exact hj)]
  ·
   rw[if_neg e,Za5 e]
   by_cases e2:k=i
   ·
    subst e2;rw[if_pos rfl,ZaD hi]
   ·
    rw[if_neg e2,Za5 e2]
 refine Mx_same' hl (fun k hk => ?_) fun k hk => ?_
 ·
  have own:∀n:Nat,n < r.length→Mx m W ((r.set i (row r (j:Int))).set j (row r (i:Int))) (V (row ((r.set i (row r (j:Int))).set j (row r (i:Int))) (n:Int))):=fun n hn=>Zbu (by omega)
  by_cases e:k=i
  ·
   have:=own j hj
   rw[hr,if_pos rfl]at this
   rw[e];exact this
  ·
   by_cases e2:k=j
   ·
    have:=own i hi
    rw[hr]at this
    by_cases e3:i=j
    ·
     exact absurd (e2.trans e3.symm) e
    ·
     rw[if_neg e3,if_pos rfl]at this
     rw[e2];exact this
   ·
    have:=own k hk
    rwa[hr,if_neg e2,if_neg e]at this
 ·
  rw[hr]
  split
  ·
   exact Zbu hi
  ·
   split
   ·
    exact Zbu hj
   ·
    exact Zbu hk
theorem Zmj {m:Int} (m0:0 < m) {W:Nat} {r:List (List Int)} (h:Rok m W r) {i j:Nat} (hi:i < r.length) (hj:j < r.length) (hij:i≠j) {p q s t p' q' s' t' : Int} (e1:p' * p+q' * s=1) (e2:p' * q+q' * t=0) (e3:s' * p+t' * s=0) (e4:s' * q+t' * t=1) :
  Eqd m W (Mx m W r) (Mx m W ((r.set j (mix m s (row r (i:Int)) t (row r (j:Int)))).set i (mix m p (row r (i:Int)) q (row r (j:Int))))):=by
 obtain⟨A,hA⟩:∃A,A=mix m p (row r (i:Int)) q (row r (j:Int)):=⟨_,rfl⟩
 obtain⟨C,hC⟩:∃C,C=mix m s (row r (i:Int)) t (row r (j:Int)):=⟨_,rfl⟩
 rw[←hA,←hC]
 have hl:((r.set j C).set i A).length=r.length:=by rw[List.length_set,List.length_set]
 have ra:row ((r.set j C).set i A) (i:Int)=A:=ZaD (by rw[List.length_set];exact hi)
 have rc:row ((r.set j C).set i A) (j:Int)=C:=by rw[Za5 (Ne.symm hij),ZaD hj]
 have ro:∀k:Nat,k≠i→k≠j→row ((r.set j C).set i A) (k:Int)=row r (k:Int):=fun k h1 h2=>by rw[Za5 h1,Za5 h2]
 have mA:=Zbu (m:=m) (W:=W) (r:=(r.set j C).set i A) (i:=i) (by omega)
 have mC:=Zbu (m:=m) (W:=W) (r:=(r.set j C).set i A) (i:=j) (by omega)
 rw[ra]at mA
 rw[rc]at mC
 have dA:∀k:Nat,k < W→m∣p*rd (row r (i:Int)) (k:Int)+q*rd (row r (j:Int)) (k:Int) - rd A (k:Int):=fun k hk=>by rw[hA];exact ZbC (by have:=(h i hi).1;omega)
 have dC:∀k:Nat,k < W→m∣s*rd (row r (i:Int)) (k:Int)+t*rd (row r (j:Int)) (k:Int) - rd C (k:Int):=fun k hk=>by rw[hC];exact ZbC (by have:=(h i hi).1;omega)
 have lin:∀a b x y u v:Int,a*(p*x+q*y - u)+b*(s*x+t*y - v)=(a*p+b*s)*x+(a*q+b*t)*y - (a*u+b*v):=fun a b x y u v=>by
  rw[Int.mul_sub,Int.mul_sub,Int.mul_add,Int.mul_add,Int.add_mul,Int.add_mul,Int.mul_assoc,Int.mul_assoc,Int.mul_assoc,Int.mul_assoc];omega
 refine Mx_same' hl (fun k hk => ?_) fun k hk => ?_
 ·
  by_cases ei:k=i
  ·
   subst ei
   refine Sp.two (a:=p') (b:=q') mA mC fun n hn => ?_
   have:=Int.dvd_add (Int.dvd_mul_of_dvd_right (b:=p') (dA n hn)) (Int.dvd_mul_of_dvd_right (b:=q') (dC n hn))
   rw[lin,e1,e2,Int.one_mul,Int.zero_mul,Int.add_zero]at this
   exact Zbo this
  ·
   by_cases ej:k=j
   ·
    subst ej
    refine Sp.two (a:=s') (b:=t') mA mC fun n hn => ?_
    have:=Int.dvd_add (Int.dvd_mul_of_dvd_right (b:=s') (dA n hn)) (Int.dvd_mul_of_dvd_right (b:=t') (dC n hn))
    rw[lin,e3,e4,Int.one_mul,Int.zero_mul,Int.zero_add]at this
    exact Zbo this
   ·
    have:=Zbu (m:=m) (W:=W) (r:=(r.set j C).set i A) (i:=k) (by omega)
    rwa[ro k ei ej]at this
 ·
  by_cases ei:k=i
  ·
   rw[ei,ra,hA];exact mix_V m0 (h i hi).1 Sp.sub (Zbu hi) (Zbu hj)
  ·
   by_cases ej:k=j
   ·
    rw[ej,rc,hC];exact mix_V m0 (h i hi).1 Sp.sub (Zbu hi) (Zbu hj)
   ·
    rw[ro k ei ej];exact Zbu hk
def updR (f:List Int→List Int) (r:List (List Int)) (j:Nat):List (List Int):=(r.take j).map f++r.drop j
theorem Zek (f:List Int→List Int) (r:List (List Int)):updR f r 0=r:=rfl
theorem Ze3 (f:List Int→List Int) (r:List (List Int)):updR f r r.length=r.map f:=by rw[updR,List.take_length,List.drop_length,List.append_nil]
theorem Zei (f:List Int→List Int) (r:List (List Int)) (j:Nat):(updR f r j).length=r.length:=by
 rw[updR,List.length_append,List.length_map,←List.length_append,List.take_append_drop]
theorem Ze4 (f:List Int→List Int) (r:List (List Int)) {j:Nat} (hj:j < r.length):row (updR f r j) (j:Int)=row r (j:Int):=by
 rw[Zbf (by rw[Zei];exact hj),Zbf hj]
 simp only[updR]
 rw[List.getElem_append_right (by simp;omega)]
 simp
 congr 1
 omega
theorem Zej (f:List Int→List Int) (r:List (List Int)) {j:Nat} (hj:j < r.length):(updR f r j).set j (f (row r (j:Int)))=updR f r (j+1):=by
 have hl:((r.take j).map f).length=j:=by simp;omega
 rw[updR,updR,List.set_append_right _ _ (by omega),hl,Nat.sub_self,List.take_add_one,List.map_append,List.append_assoc]
 congr 1
 rw[List.getElem?_eq_getElem hj,List.drop_eq_getElem_cons hj,Zbf hj,List.set_cons_zero]
 rfl
theorem ZbB (f:List Int→List Int) (r:List (List Int)) {j:Nat} (hj:j < r.length):row (r.map f) (j:Int)=f (row r (j:Int)):=by
 rw[Zbf (by rw[List.length_map];exact hj),Zbf hj,List.getElem_map]
def colf (m:Int) (k:Nat) (s t u v:Int) (x:List Int):List Int:=(x.set 0 ((s*rd x 0+t*rd x (k:Int))%m)).set k ((u*rd x 0+v*rd x (k:Int))%m)
theorem ZlR (m:Int) (k:Nat) (s t u v:Int) (x:List Int):(colf m k s t u v x).length=x.length:=by rw[colf,List.length_set,List.length_set]
theorem Zm1 {m:Int} (m0:0 < m) (k:Nat) (s t u v:Int) {x:List Int} (hx:AllIn m x):AllIn m (colf m k s t u v x):=Zby fun z hz=>by
 rcases List.mem_or_eq_of_mem_set hz with h|h
 ·
  rcases List.mem_or_eq_of_mem_set h with h|h
  ·
   exact hx.mem h
  ·
   rw[h];exact⟨Int.emod_nonneg _ (by omega),Int.emod_lt_of_pos _ m0⟩
 ·
  rw[h];exact⟨Int.emod_nonneg _ (by omega),Int.emod_lt_of_pos _ m0⟩
theorem Zks {m:Int} {k:Nat} {s t u v:Int} {x:List Int} (k0:0 < k) (hk:k < x.length) (i:Nat):rd (colf m k s t u v x) (i:Int)=if i=0 then(s*rd x 0+t*rd x (k:Int))%m else if i=k then(u*rd x 0+v*rd x (k:Int))%m else rd x (i:Int):=by
 unfold colf
 by_cases e:i=0
 ·
  subst e;rw[if_pos rfl,Zbk (by omega),Zbd (by omega)]
 ·
  rw[if_neg e]
  by_cases e2:i=k
  ·
   subst e2;rw[if_pos rfl,Zbd (by rw[List.length_set];exact hk)]
  ·
   rw[if_neg e2,Zbk e2,Zbk e]
theorem ZlP {m:Int} (m0:0 < m) {W:Nat} {r:List (List Int)} (h:Rok m W r) {k:Nat} (k0:0 < k) (hk:k < W) {p q s t p' q' s' t' : Int} (e1:p' * p+q' * s=1) (e2:p' * q+q' * t=0) (e3:s' * p+t' * s=0) (e4:s' * q+t' * t=1)
  (f1:p*p' + q*s' = 1) (f2:p*q' + q*t' = 0) (f3:s*p' + t*s' = 0) (f4:s*q' + t*t' = 1):Eqd m W (Mx m W r) (Mx m W (r.map (colf m k p q s t))):=by
 refine Zj9 m0 (Zeb (r:=W) (a:=0) (b:=k) (by omega) (by omega) hk e1 e2 e3 e4 f1 f2 f3 f4) (List.length_map ..) fun n hn i hi => ?_
 rw[ZbB _ _ hn]
 show m∣pairT 0 k p q s t (V (row r (n:Int))) i - rd (colf m k p q s t (row r (n:Int))) (i:Int)
 rw[Zks k0 (by rw[(h n hn).1];exact hk),pairT]
 by_cases e:i=0
 ·
  rw[if_pos e,if_pos e];exact Int.dvd_self_sub_emod
 ·
  rw[if_neg e,if_neg e]
  by_cases e2:i=k
  ·
   rw[if_pos e2,if_pos e2];exact Int.dvd_self_sub_emod
  ·
   rw[if_neg e2,if_neg e2];exact Zaw rfl
theorem Rok.colf {m:Int} (m0:0 < m) {W:Nat} {r:List (List Int)} (h:Rok m W r) (k:Nat) (p q s t:Int):Rok m W (r.map (V.colf m k p q s t)):=fun i hi=>by
 rw[List.length_map]at hi
 rw[ZbB _ _ hi]
 exact⟨by rw[ZlR];exact(h i hi).1,Zm1 m0 _ _ _ _ _ (h i hi).2⟩
end Go.Proofs.YtdamfbighdkcbaaGreat.V
namespace Go.Proofs.YtdamfbighdkcbaaGreat.V
open Go.RowKit Go.Proofs.YtdamfbighdkcbaaGreat.D Go.Proofs.YtdamfbighdkcbaaGreat.P
theorem Zkm {d x g s t:Int} (h:s*d+t*x=g) (g0:0 < g) (gd:g∣d) (gx:g∣x):∃a b,d=g*a∧x=g*b∧s*a+t*b=1∧d / g=a∧x / g=b:=by
 obtain⟨a,ha⟩:=gd
 obtain⟨b,hb⟩:=gx
 refine⟨a,b,ha,hb,Int.eq_of_mul_eq_mul_left (show g≠0 by omega) ?_,by rw[ha];exact Int.mul_ediv_cancel_left _ (by omega),by rw[hb];exact Int.mul_ediv_cancel_left _ (by omega)⟩
 rw[Int.mul_add,Int.mul_one,Int.mul_left_comm g s,Int.mul_left_comm g t,←ha,←hb,h]
theorem w_div {x g:Int} (x0:0≤x) (x1:x≤1000000) (g0:0 < g):wrapI (Int.tdiv x g)=x / g∧0≤x / g∧x / g≤x:=by
 have d0:0≤x / g:=Int.ediv_nonneg x0 (by omega)
 have d1:x / g≤x:=Int.ediv_le_self _ x0
 rw[ZgP x0]
 exact⟨w64 (by omega) (by omega),d0,d1⟩
structure CI (m:Int) (W n:Nat) (X r:List (List Int)):Prop where
 len:r.length=n
 ok:Rok m W r
 eqd:Eqd m W (Mx m W X) (Mx m W r)
 pos:0 < T r 0 0
 dvd:T r 0 0∣m
def fst0 (r:List (List Int)):List Int:=row r ((0:Nat):Int)
section
variable {m:Int} {W n:Nat} {X:List (List Int)}
theorem CI.lt {r:List (List Int)} (h:CI m W n X r) (n0:0 < n) (W0:0 < W):T r 0 0 < m:=(h.ok.bd (i:=0) (k:=0) (by have:=h.len;omega) W0).2
theorem Tn (r:List (List Int)) (i k:Nat):T r (i:Int) (k:Int)=rd (row r (i:Int)) (k:Int):=rfl
theorem T0 (r:List (List Int)) (k:Int):T r 0 k=rd (fst0 r) k:=rfl
theorem Ti (r:List (List Int)) (i:Int):T r i 0=rd (row r i) ((0:Nat):Int):=rfl
theorem ZjB (m2:2≤m) (m12:m≤12) (W0:0 < W) (hW:W≤1000) (hn:n≤100000) {row0:List Int}:∀(c i:Nat) (r:List (List Int)),i+c=n→1≤i→CI m W n X r→(T r 0 0 < rd row0 0∨(fst0 r=row0∧∀k:Nat,1≤k→k < i→T r (k:Int) 0=0)) →
  ∃r', Zi.l2 (W:Int) m false (i:Int) r=Zi.l3 (W:Int) m false 1 r' ∧ CI m W n X r' ∧ (T r' 0 0 < rd row0 0∨(fst0 r' = row0∧∀k:Nat,1≤k→k < n→T r' (k:Int) 0=0)):=by
 intro c
 induction c with
 | zero =>
  intro i r hi h1 hC hD
  have hl:=hC.len
  have:i=n:=by omega
  subst this
  refine⟨r,?_,hC,hD⟩
  rw[Zi.l2_eq]
  ((with_reducible repeat (first|refine Zl (by first|assumption|omega|rfl|exact B_pos (by omega)) ?_|refine Zk (by first|assumption|omega|decide|exact B_not (by omega)) ?_|refine Ze (by first|assumption) ?_|dsimp only));first|done|(with_reducible rfl)|simp (disch:=omega) only[w64]|(show False;done))
 | succ c ih =>
  intro i r hi h1 hC hD
  have hl:=hC.len
  have dp:=hC.pos
  have dm:=hC.lt (by omega) W0
  obtain⟨l0,a0⟩:=hC.ok 0 (by omega)
  obtain⟨li,ai⟩:=hC.ok i (by omega)
  have l0' : (row r 0).length=W:=l0
  obtain⟨x0,x1⟩:=hC.ok.bd (i:=i) (k:=0) (by omega) W0
  obtain⟨d,hd⟩:∃d,d=T r 0 0:=⟨_,rfl⟩
  obtain⟨x,hx⟩:∃x,x=T r (i:Int) 0:=⟨_,rfl⟩
  have x0:0≤x:=by rw[hx];exact x0
  have x1:x < m:=by rw[hx];exact x1
  have hs0:r.set (0:Int).toNat (row r 0)=r:=Zbe r 0
  have hsi:r.set (i:Int).toNat (row r (i:Int))=r:=by rw[Int.toNat_natCast];exact Zbe r i
  have t0:(0:Int).toNat=0:=rfl
  have h0i:row r 0=row r ((0:Nat):Int):=rfl
  rw[Zi.l2_eq,wn (j:=i) (by omega)]
  simp only[hs0,hsi,←hd,←hx]
  rw[←hd]at dp dm
  have hdd:d∣m:=by rw[hd];exact hC.dvd
  by_cases hxd:Int.tmod x d=0
  ·
   obtain⟨e1,e2,e3⟩:=w_div x0 (by omega) dp
   have e4:wrapI (0 - x / d) = -(x / d):=by rw[w64 (by omega) (by omega)];omega
   have hM:=Mix_ m2 m12 (x:=1) (y := -(x / d)) ai a0 (by omega) (by omega) (by omega) (by omega) (by omega) (by omega)
   have hM:ZM.f (row r (i:Int)) (row r 0) 1 (-(x / d)) m=some (mix m 1 (row r (i:Int)) (-(x / d)) (row r ((0:Nat):Int))):=hM
   obtain⟨r', hr'⟩:∃r', r' = r.set i (mix m 1 (row r (i:Int)) (-(x / d)) (row r ((0:Nat):Int))):=⟨_,rfl⟩
   have hf:fst0 r' = fst0 r:=by rw[hr'];exact Za5 (by omega)
   have hT:T r' 0 0=d:=by rw[T0,hf,hd];rfl
   have hC' : CI m W n X r' := ⟨by rw[hr', List.length_set];exact hl,by rw[hr'];exact hC.ok.set ⟨by rw[Za4];exact li,Zb2 (by omega)⟩,hC.eqd.trans (by rw[hr'];exact Zll (by omega) hC.ok (by omega) (by omega) (by omega) _),by rw[hT];exact dp,by rw[hT];exact hdd⟩
   obtain ⟨r2,k1,k2,k3⟩:=ih (i+1) r' (by omega) (by omega) hC' (by
    rcases hD with hD|⟨hD1,hD2⟩
    ·
     left;rw[hT,hd];exact hD
    ·
     refine .inr ⟨by rw[hf];exact hD1,fun k hk1 hk2 => ?_⟩
     rw[Ti,hr']
     by_cases e:k=i
     ·
      subst e
      rw[ZaD (by omega),Zbw (by omega)]
      rw[Ti]at hx
      rw[←hx,show rd (row r ((0:Nat):Int)) ((0:Nat):Int)=d from hd.symm,Int.neg_mul,Int.one_mul,Int.ediv_mul_cancel (Zch.1 hxd),show x + -x=0 by omega]
      rfl
     ·
      rw[Za5 e];exact hD2 k hk1 (by omega))
   refine⟨r2,?_,k2,k3⟩
   rw[e1,e4,Int.toNat_natCast,←k1,hr']
   ((with_reducible repeat (first|refine Zl (by first|assumption|omega|rfl|exact B_pos (by omega)) ?_|refine Zk (by first|assumption|omega|decide|exact B_not (by omega)) ?_|refine Ze (by first|assumption) ?_|dsimp only));first|done|(with_reducible rfl)|simp (disch:=omega) only[w64]|(show False;done))
  ·
   obtain⟨s,t,h1', h2', h3', h4'⟩:=ZhJ (a:=d) (b:=x) (by omega) (by omega) x0 (by omega)
   obtain⟨g,hg⟩:∃g,g=((Int.gcd d x:Nat):Int):=⟨_,rfl⟩
   rw[←hg]at h1' h2'
   have gd:g∣d:=by rw[hg];exact Int.gcd_dvd_left ..
   have gx:g∣x:=by rw[hg];exact Int.gcd_dvd_right ..
   have g0:0 < g:=by rw[hg];exact_mod_cast Int.gcd_pos_of_ne_zero_left x (by omega)
   have gld:g < d:=by
    have:=Int.le_of_dvd dp gd
    rcases Int.lt_or_eq_of_le this with h|h
    ·
     exact h
    ·
     exact absurd (Zch.2 (h ▸ gx)) hxd
   obtain⟨a,b,ha,hb,hab,hda,hxb⟩:=Zkm h2' g0 gd gx
   obtain⟨e1,e2,e3⟩:=w_div x0 (by omega) g0
   obtain⟨f1,f2,f3⟩:=w_div (x:=d) (by omega) (by omega) g0
   rw[hxb]at e1 e2 e3
   rw[hda]at f1 f2 f3
   have e4:wrapI (0 - a) = -a:=by rw[w64 (by omega) (by omega)];omega
   have hM1:=Mix_ m2 m12 (x:=s) (y:=t) a0 ai (by omega) (by omega) (by omega) (by omega) (by omega) (by omega)
   have hM1:ZM.f (row r 0) (row r (i:Int)) s t m=some (mix m s (row r ((0:Nat):Int)) t (row r (i:Int))):=hM1
   have hM2:=Mix_ m2 m12 (x:=b) (y := -a) a0 ai (by omega) (by omega) (by omega) (by omega) (by omega) (by omega)
   have hM2:ZM.f (row r 0) (row r (i:Int)) b (-a) m=some (mix m b (row r ((0:Nat):Int)) (-a) (row r (i:Int))):=hM2
   obtain⟨r', hr'⟩:∃r', r' = (r.set i (mix m b (row r ((0:Nat):Int)) (-a) (row r (i:Int)))).set 0 (mix m s (row r ((0:Nat):Int)) t (row r (i:Int))):=⟨_,rfl⟩
   have hT:T r' 0 0=g:=by
    show rd (row r' ((0:Nat):Int)) ((0:Nat):Int)=g
    rw[hr', ZaD (by rw[List.length_set];omega),Zbw (by omega),show rd (row r ((0:Nat):Int)) ((0:Nat):Int)=d from hd.symm,show rd (row r (i:Int)) ((0:Nat):Int)=x from hx.symm,h2']
    exact Int.emod_eq_of_lt (by omega) (by omega)
   have hC' : CI m W n X r' := ⟨by rw[hr', List.length_set,List.length_set];exact hl,by rw[hr'];exact(hC.ok.set ⟨by rw[Za4];exact l0,Zb2 (by omega)⟩).set ⟨by rw[Za4];exact l0,Zb2 (by omega)⟩,
    hC.eqd.trans (by
     rw[hr']
     refine Zmj (by omega) hC.ok (by omega) (by omega) (show 0≠i by omega) (p' := a) (q' := t) (s' := b) (t' := -s) ?_ ?_ ?_ ?_
     ·
      rw[Int.mul_comm a s];exact hab
     ·
      rw[Int.mul_neg,Int.mul_comm a t];omega
     ·
      rw[Int.neg_mul,Int.mul_comm b s];omega
     ·
      rw[Int.neg_mul_neg,Int.mul_comm b t];omega),by rw[hT];exact g0,by rw[hT];exact Int.dvd_trans gd hdd⟩
   have hTd:T r 0 0≤rd row0 0:=by
    rcases hD with hD|⟨hD1,_⟩
    ·
     omega
    ·
     rw[T0,hD1];exact Int.le_refl _
   obtain⟨r2,k1,k2,k3⟩:=ih (i+1) r' (by omega) (by omega) hC' (.inl (by rw[hT];omega))
   refine⟨r2,?_,k2,k3⟩
   rw[h1']
   simp only[Option.bind_some]
   rw[e1,f1,e4,Int.toNat_natCast,←k1,hr']
   have gne:¬ g=0:=by omega
   have hs2:∀C,(r.set i C).set (0:Int).toNat (row r 0)=r.set i C:=fun C=>by
    have:=Zbe (r.set i C) 0
    rwa[Za5 (show 0≠i by omega)]at this
   (with_reducible repeat (first|refine Zl (by first|assumption|omega|rfl|exact B_pos (by omega)) ?_|refine Zk (by first|assumption|omega|decide|exact B_not (by omega)) ?_|refine Ze (by first|assumption) ?_|dsimp only))
   simp only[hs2,List.length_set]
   (with_reducible repeat (first|refine Zl (by first|assumption|omega|rfl|exact B_pos (by omega)) ?_|refine Zk (by first|assumption|omega|decide|exact B_not (by omega)) ?_|refine Ze (by first|assumption) ?_|dsimp only))
   rfl
theorem Zjy (m2:2≤m) (m12:m≤12) (W0:0 < W) (hW:W≤1000) (n0:0 < n) (hn:n≤100000) {rs:List (List Int)} {d1:Int}:∀(c k:Nat) (r:List (List Int)) (flag:Bool),k+c=W→1≤k→CI m W n X r→(∀j:Nat,1≤j→j < k→T r 0 (j:Int)=0)→T r 0 0≤d1→((∀j:Nat,1≤j→j < W→T rs 0 (j:Int)=0)→r=rs∧flag=false) →
  ∃r' flag', Zi.l3 (W:Int) m flag (k:Int) r=Zi.l5 (W:Int) m flag' 1 r' ∧ CI m W n X r' ∧ (∀j:Nat,1≤j→j < W→T r' 0 (j:Int)=0)∧T r' 0 0≤d1∧((∀j:Nat,1≤j→j < W→T rs 0 (j:Int)=0)→r' = rs∧flag' = false):=by
 intro c
 induction c with
 | zero =>
  intro k r flag hk h1 hC hz hd1 hcl
  have:k=W:=by omega
  subst this
  refine⟨r,flag,?_,hC,hz,hd1,hcl⟩
  rw[Zi.l3_eq]
  ((with_reducible repeat (first|refine Zl (by first|assumption|omega|rfl|exact B_pos (by omega)) ?_|refine Zk (by first|assumption|omega|decide|exact B_not (by omega)) ?_|refine Ze (by first|assumption) ?_|dsimp only));first|done|(with_reducible rfl)|simp (disch:=omega) only[w64]|(show False;done))
 | succ c ih =>
  intro k r flag hk h1 hC hz hd1 hcl
  have hl:=hC.len
  have dp:=hC.pos
  have dm:=hC.lt n0 W0
  obtain⟨l0,a0⟩:=hC.ok 0 (by omega)
  have l0' : (row r 0).length=W:=l0
  obtain⟨x0,x1⟩:=hC.ok.bd (i:=0) (k:=k) (by omega) (by omega)
  obtain⟨d,hd⟩:∃d,d=T r 0 0:=⟨_,rfl⟩
  obtain⟨x,hx⟩:∃x,x=T r 0 (k:Int):=⟨_,rfl⟩
  have x0:0≤x:=by rw[hx];exact x0
  have x1:x < m:=by rw[hx];exact x1
  have hs0:r.set (0:Int).toNat (row r 0)=r:=Zbe r 0
  rw[Zi.l3_eq,wn (j:=k) (by omega)]
  simp only[hs0,←hd,←hx]
  rw[←hd]at dp dm hd1
  have hdd:d∣m:=by rw[hd];exact hC.dvd
  by_cases hx0:x=0
  ·
   obtain⟨r', flag', k1,k2⟩:=ih (k+1) r flag (by omega) (by omega) hC (fun j j1 j2=>by
    by_cases e:j=k
    ·
     rw[e,←hx];exact hx0
    ·
     exact hz j j1 (by omega)) (by rw[←hd];exact hd1) hcl
   refine⟨r', flag', ?_,k2⟩
   rw[←k1]
   ((with_reducible repeat (first|refine Zl (by first|assumption|omega|rfl|exact B_pos (by omega)) ?_|refine Zk (by first|assumption|omega|decide|exact B_not (by omega)) ?_|refine Ze (by first|assumption) ?_|dsimp only));first|done|(with_reducible rfl)|simp (disch:=omega) only[w64]|(show False;done))
  ·
   obtain⟨s,t,h1', h2', h3', h4'⟩:=ZhJ (a:=d) (b:=x) (by omega) (by omega) x0 (by omega)
   obtain⟨g,hg⟩:∃g,g=((Int.gcd d x:Nat):Int):=⟨_,rfl⟩
   rw[←hg]at h1' h2'
   have gd:g∣d:=by rw[hg];exact Int.gcd_dvd_left ..
   have gx:g∣x:=by rw[hg];exact Int.gcd_dvd_right ..
   have g0:0 < g:=by rw[hg];exact_mod_cast Int.gcd_pos_of_ne_zero_left x (by omega)
   have gld:g≤d:=Int.le_of_dvd dp gd
   obtain⟨a,b,ha,hb,hab,hda,hxb⟩:=Zkm h2' g0 gd gx
   obtain⟨e1,e2,e3⟩:=w_div x0 (by omega) g0
   obtain⟨f1,f2,f3⟩:=w_div (x:=d) (by omega) (by omega) g0
   rw[hxb]at e1 e2 e3
   rw[hda]at f1 f2 f3
   have gne:¬ g=0:=by omega
   have four:∀F:Bool,Zi.l4 (W:Int) m F (k:Int) d x g s t 0 r=Zi.l3 (W:Int) m F ((k+1:Nat):Int) (r.map (colf m k s t b (-a))):=fun F=>by
    have loop:=up n (fun j=>Zi.l4 (W:Int) m F (k:Int) d x g s t (j:Int) (updR (colf m k s t b (-a)) r j)) (fun j hj=>by
     obtain⟨lj,aj⟩:=hC.ok j (by omega)
     have ul:=Zei (colf m k s t b (-a)) r j
     have ur:=Ze4 (colf m k s t b (-a)) r (j:=j) (by omega)
     obtain⟨p0,p1⟩:=hC.ok.bd (i:=j) (k:=0) (by omega) W0
     obtain⟨q0,q1⟩:=hC.ok.bd (i:=j) (k:=k) (by omega) (by omega)
     obtain⟨p,hp⟩:∃p,p=rd (row r (j:Int)) ((0:Nat):Int):=⟨_,rfl⟩
     obtain⟨q,hq⟩:∃q,q=rd (row r (j:Int)) (k:Int):=⟨_,rfl⟩
     rw[←hp]at p0 p1
     rw[←hq]at q0 q1
     have tp:T (updR (colf m k s t b (-a)) r j) (j:Int) 0=p:=by rw[Ti,ur,hp]
     have tq:T (updR (colf m k s t b (-a)) r j) (j:Int) (k:Int)=q:=by rw[Tn,ur,hq]
     have b1:=Zdl (x:=s) (B:=100000000000000) (a:=p) (m:=m) (by omega) (by omega) p0 p1 m12 (by omega)
     have b2:=Zdl (x:=t) (B:=100000000000000) (a:=q) (m:=m) (by omega) (by omega) q0 q1 m12 (by omega)
     have b3:=Zdl (x:=b) (B:=12) (a:=p) (m:=m) (by omega) (by omega) p0 p1 m12 (by omega)
     have b4:=Zdl (x:=a) (B:=12) (a:=q) (m:=m) (by omega) (by omega) q0 q1 m12 (by omega)
     have m1:=ModW (a:=s*p+t*q) (m:=m) (by omega) (by omega) (by omega) (by omega)
     have m2' := ModW (a:=b*p - a*q) (m:=m) (by omega) (by omega) (by omega) (by omega)
     have w1:wrapI (wrapI (s*p)+wrapI (t*q))=s*p+t*q:=by rw[w64 (x:=s*p) (by omega) (by omega),w64 (x:=t*q) (by omega) (by omega),w64 (by omega) (by omega)]
     have w2:wrapI (wrapI (b*p) - wrapI (a*q))=b*p - a*q:=by rw[w64 (x:=b*p) (by omega) (by omega),w64 (x:=a*q) (by omega) (by omega),w64 (by omega) (by omega)]
     have hcf:((row r (j:Int)).set (0:Int).toNat ((s*p+t*q)%m)).set k ((b*p - a*q)%m)=colf m k s t b (-a) (row r (j:Int)):=by
      rw[colf,Int.neg_mul,←hq]
      rw[show rd (row r (j:Int)) 0=p from hp.symm]
      rfl
     have sl:((row r (j:Int)).set (0:Int).toNat ((s*p+t*q)%m)).length=W:=by rw[List.length_set];exact lj
     rw[Zi.l4_eq,wn (j:=j) (by omega),tp,tq,ur,e1,f1,w1,w2,←Zej _ _ (show j < r.length by omega),Int.toNat_natCast,Int.toNat_natCast,←hcf]
     ((with_reducible repeat (first|refine Zl (by first|assumption|omega|rfl|exact B_pos (by omega)) ?_|refine Zk (by first|assumption|omega|decide|exact B_not (by omega)) ?_|refine Ze (by first|assumption) ?_|dsimp only));first|done|(with_reducible rfl)|simp (disch:=omega) only[w64]|(show False;done)))
    rw[show(updR (colf m k s t b (-a)) r n)=r.map (colf m k s t b (-a))by rw[←hl];exact Ze3 _ _,Zek]at loop
    refine Eq.trans loop ?_
    have ml:(r.map (colf m k s t b (-a))).length=n:=by rw[List.length_map];exact hl
    rw[Zi.l4_eq,wn (j:=k) (by omega)]
    ((with_reducible repeat (first|refine Zl (by first|assumption|omega|rfl|exact B_pos (by omega)) ?_|refine Zk (by first|assumption|omega|decide|exact B_not (by omega)) ?_|refine Ze (by first|assumption) ?_|dsimp only));first|done|(with_reducible rfl)|simp (disch:=omega) only[w64]|(show False;done))
   obtain⟨r', hr'⟩:∃r', r' = r.map (colf m k s t b (-a)):=⟨_,rfl⟩
   have row0:row r' ((0:Nat):Int)=colf m k s t b (-a) (row r ((0:Nat):Int)):=by rw[hr'];exact ZbB _ _ (by omega)
   have tz:∀j:Nat,T r' 0 (j:Int)=if j=0 then g else if j=k then 0 else T r 0 (j:Int):=fun j=>by
    show rd (row r' ((0:Nat):Int)) (j:Int)=_
    rw[row0,Zks (by omega) (by omega)]
    rw[show rd (row r ((0:Nat):Int)) 0=d from hd.symm,show rd (row r ((0:Nat):Int)) (k:Int)=x from hx.symm]
    split
    ·
     rw[h2'];exact Int.emod_eq_of_lt (by omega) (by omega)
    ·
     split
     ·
      rw[ha,hb,Int.neg_mul,Int.mul_left_comm b g a,Int.mul_left_comm a g b,Int.mul_comm b a,show ∀z:Int,z + -z=0 from fun z=>by omega]
      rfl
     ·
      rfl
   have hT:T r' 0 0=g:=tz 0
   have hC' : CI m W n X r' := ⟨by rw[hr', List.length_map];exact hl,by rw[hr'];exact hC.ok.colf (by omega) _ _ _ _ _,hC.eqd.trans (by
     rw[hr']
     refine ZlP (by omega) hC.ok (by omega) (by omega) (p' := a) (q' := t) (s' := b) (t' := -s) ?_ ?_ ?_ ?_ ?_ ?_ ?_ ?_
     ·
      rw[Int.mul_comm a s];exact hab
     ·
      rw[Int.mul_neg,Int.mul_comm a t];omega
     ·
      rw[Int.neg_mul,Int.mul_comm b s];omega
     ·
      rw[Int.neg_mul_neg,Int.mul_comm b t];omega
     ·
      exact hab
     ·
      rw[Int.mul_neg,Int.mul_comm s t];omega
     ·
      rw[Int.neg_mul,Int.mul_comm b a];omega
     ·
      rw[Int.neg_mul_neg,Int.mul_comm b t,Int.mul_comm a s];omega),by rw[hT];exact g0,by rw[hT];exact Int.dvd_trans gd hdd⟩
   have hF:∀F:Bool,∃r2 flag', Zi.l4 (W:Int) m F (k:Int) d x g s t 0 r=Zi.l5 (W:Int) m flag' 1 r2∧CI m W n X r2∧(∀j:Nat,1≤j→j < W→T r2 0 (j:Int)=0)∧T r2 0 0≤d1∧((∀j:Nat,1≤j→j < W→T rs 0 (j:Int)=0)→r2=rs∧flag' = false):=fun F=>by
    obtain⟨r2,flag', k1,k2⟩:=ih (k+1) r' F (by omega) (by omega) hC' (fun j j1 j2=>by
     rw[tz]
     by_cases e:j=k
     ·
      rw[if_neg (by omega),if_pos e]
     ·
      rw[if_neg (by omega),if_neg e];exact hz j j1 (by omega)) (by rw[hT];omega) (fun hcl' => by
     exfalso
     obtain⟨e,_⟩:=hcl hcl'
     exact hx0 (by rw[hx,e];exact hcl' k h1 (by omega)))
    exact⟨r2,flag', by rw[four F,←hr', k1],k2⟩
   cases flag with
   | true =>
    obtain⟨r2,flag', k1,k2⟩:=hF true
    refine⟨r2,flag', ?_,k2⟩
    rw[←k1]
    have tt:true=true:=rfl
    ((with_reducible repeat (first|refine Zl (by first|assumption|omega|rfl|exact B_pos (by omega)) ?_|refine Zk (by first|assumption|omega|decide|exact B_not (by omega)) ?_|refine Ze (by first|assumption) ?_|dsimp only));first|done|(with_reducible rfl)|simp (disch:=omega) only[w64]|(show False;done))
   | false =>
    obtain⟨r2,flag', k1,k2⟩:=hF (!decide (Int.tmod x d=0))
    refine⟨r2,flag', ?_,k2⟩
    rw[←k1]
    have ff:¬ false=true:=Bool.false_ne_true
    have dne:¬ d=0:=by omega
    ((with_reducible repeat (first|refine Zl (by first|assumption|omega|rfl|exact B_pos (by omega)) ?_|refine Zk (by first|assumption|omega|decide|exact B_not (by omega)) ?_|refine Ze (by first|assumption) ?_|dsimp only));first|done|(with_reducible rfl)|simp (disch:=omega) only[w64]|(show False;done))
theorem Zjz (hn:n≤100000) (W0:0 < W) {r:List (List Int)} (hC:CI m W n X r):∀(c i:Nat) (flag:Bool),i+c=n→1≤i→∃flag', Zi.l5 (W:Int) m flag (i:Int) r=Zi.l1 (W:Int) m flag' r∧(flag' = false→flag=false∧∀k:Nat,i≤k→k < n→T r (k:Int) 0=0)∧(flag=false→(∀k:Nat,i≤k→k < n→T r (k:Int) 0=0)→flag' = false):=by
 intro c
 have hl:=hC.len
 induction c with
 | zero =>
  intro i flag hi h1
  refine⟨flag,?_,fun h=>⟨h,fun k k1 k2=>by omega⟩,fun h _=>h⟩
  rw[Zi.l5_eq]
  ((with_reducible repeat (first|refine Zl (by first|assumption|omega|rfl|exact B_pos (by omega)) ?_|refine Zk (by first|assumption|omega|decide|exact B_not (by omega)) ?_|refine Ze (by first|assumption) ?_|dsimp only));first|done|(with_reducible rfl)|simp (disch:=omega) only[w64]|(show False;done))
 | succ c ih =>
  intro i flag hi h1
  obtain⟨li,ai⟩:=hC.ok i (by omega)
  have hsi:r.set (i:Int).toNat (row r (i:Int))=r:=by rw[Int.toNat_natCast];exact Zbe r i
  rw[Zi.l5_eq,wn (j:=i) (by omega)]
  simp only[hsi]
  cases flag with
  | true =>
   obtain⟨f,k1,k2,k3⟩:=ih (i+1) true (by omega) (by omega)
   refine⟨f,?_,fun h => ?_,fun h=>by cases h⟩
   ·
    rw[←k1]
    have tt:true=true:=rfl
    ((with_reducible repeat (first|refine Zl (by first|assumption|omega|rfl|exact B_pos (by omega)) ?_|refine Zk (by first|assumption|omega|decide|exact B_not (by omega)) ?_|refine Ze (by first|assumption) ?_|dsimp only));first|done|(with_reducible rfl)|simp (disch:=omega) only[w64]|(show False;done))
   ·
    cases(k2 h).1
  | false =>
   obtain⟨f,k1,k2,k3⟩:=ih (i+1) (!decide (T r (i:Int) 0=0)) (by omega) (by omega)
   have ff:¬ false=true:=Bool.false_ne_true
   refine⟨f,?_,fun h => ?_,fun _ h => ?_⟩
   ·
    rw[←k1]
    ((with_reducible repeat (first|refine Zl (by first|assumption|omega|rfl|exact B_pos (by omega)) ?_|refine Zk (by first|assumption|omega|decide|exact B_not (by omega)) ?_|refine Ze (by first|assumption) ?_|dsimp only));first|done|(with_reducible rfl)|simp (disch:=omega) only[w64]|(show False;done))
   ·
    obtain⟨g1,g2⟩:=k2 h
    refine⟨rfl,fun k q1 q2 => ?_⟩
    by_cases e:k=i
    ·
     rw[e];simpa using g1
    ·
     exact g2 k (by omega) q2
   ·
    refine k3 ?_ fun k q1 q2=>h k (by omega) q2
    rw[h i (Nat.le_refl _) (by omega)]
    rfl
theorem ZjA (m2:2≤m) (m12:m≤12) (W0:0 < W) (hW:W≤1000) (n0:0 < n) (hn:n≤100000):∀(N:Nat) (r:List (List Int)),CI m W n X r→((∀j:Nat,1≤j→j < W→T r 0 (j:Int)=0)∧(T r 0 0).toNat*2≤N)∨(T r 0 0).toNat*2+1≤N →
  ∃Y,Zi.l1 (W:Int) m true r=some Y∧CI m W n X Y∧(∀j:Nat,1≤j→j < W→T Y 0 (j:Int)=0)∧∀k:Nat,1≤k→k < n→T Y (k:Int) 0=0:=by
 intro N
 induction N with
 | zero =>
  intro r hC h
  have:=hC.pos
  rcases h with ⟨_,h⟩|h <;> omega
 | succ N ih =>
  intro r hC hN
  have tt:true=true:=rfl
  obtain⟨r1,a1,a2,a3⟩:=ZjB m2 m12 W0 hW hn (row0:=fst0 r) (n - 1) 1 r (by omega) (Nat.le_refl _) hC (.inr ⟨rfl,fun k k1 k2=>by omega⟩)
  have a1:Zi.l2 (W:Int) m false 1 r=Zi.l3 (W:Int) m false 1 r1:=a1
  obtain⟨r2,f2,b1,b2,b3,b4,b5⟩:=Zjy m2 m12 W0 hW n0 hn (rs:=r1) (d1:=T r1 0 0) (W - 1) 1 r1 false (by omega) (Nat.le_refl _) a2 (fun j j1 j2=>by omega) (Int.le_refl _) (fun _=>⟨rfl,rfl⟩)
  have b1:Zi.l3 (W:Int) m false 1 r1=Zi.l5 (W:Int) m f2 1 r2:=b1
  obtain⟨f3,c1,c2,c3⟩:=Zjz hn W0 b2 (n - 1) 1 f2 (by omega) (Nat.le_refl _)
  have c1:Zi.l5 (W:Int) m f2 1 r2=Zi.l1 (W:Int) m f3 r2:=c1
  have start:Zi.l1 (W:Int) m true r=Zi.l1 (W:Int) m f3 r2:=by
   rw[Zi.l1_eq,if_pos tt,a1,b1,c1]
  cases f3 with
  | false =>
   refine⟨r2,?_,b2,b3,fun k k1 k2=>(c2 rfl).2 k k1 k2⟩
   rw[start,Zi.l1_eq]
   rfl
  | true =>
   rw[start]
   refine ih r2 b2 (.inl ⟨b3,?_⟩)
   have p2:=b2.pos
   have p1:=a2.pos
   rcases a3 with a3|⟨a3,a4⟩
   ·
    have a3:T r1 0 0 < T r 0 0:=a3
    rcases hN with ⟨_,hN⟩|hN <;> omega
   ·
    have e:T r1 0 0=T r 0 0:=by rw[T0,T0,a3]
    by_cases hcl:∀j:Nat,1≤j→j < W→T r 0 (j:Int)=0
    ·
     exfalso
     have h1:∀j:Nat,1≤j→j < W→T r1 0 (j:Int)=0:=fun j j1 j2=>by rw[T0,a3];exact hcl j j1 j2
     obtain⟨e2,e3⟩:=b5 h1
     have:=c3 e3 (fun k k1 k2=>by rw[e2];exact a4 k k1 k2)
     cases this
    ·
     rcases hN with ⟨hN,_⟩|hN
     ·
      exact absurd hN hcl
     ·
      omega
end
end Go.Proofs.YtdamfbighdkcbaaGreat.V
namespace Go.Proofs.YtdamfbighdkcbaaGreat.V
open Go.RowKit Go.Proofs.YtdamfbighdkcbaaGreat.D Go.Proofs.YtdamfbighdkcbaaGreat.P
def sw (c:Nat) (x:List Int):List Int:=(x.set 0 (rd x (c:Int))).set c (rd x 0)
theorem Zn0 (c:Nat) (x:List Int):(sw c x).length=x.length:=by rw[sw,List.length_set,List.length_set]
theorem sw_in {m:Int} {c:Nat} {x:List Int} (h:AllIn m x) (h0:0 < x.length) (hc:c < x.length):AllIn m (sw c x):=Zby fun z hz=>by
 rcases List.mem_or_eq_of_mem_set hz with k|k
 ·
  rcases List.mem_or_eq_of_mem_set k with k|k
  ·
   exact h.mem k
  ·
   rw[k];exact h c (by omega) (by omega)
 ·
  rw[k];exact h 0 (by omega) (by omega)
theorem sw_rd {c:Nat} {x:List Int} (h0:0 < x.length) (hc:c < x.length) (i:Nat):rd (sw c x) (i:Int)=if i=c then rd x 0 else if i=0 then rd x (c:Int)else rd x (i:Int):=by
 unfold sw
 by_cases e:i=c
 ·
  subst e;rw[if_pos rfl,Zbd (by rw[List.length_set];exact hc)]
 ·
  rw[if_neg e,Zbk e]
  by_cases e2:i=0
  ·
   subst e2;rw[if_pos rfl,Zbd h0]
  ·
   rw[if_neg e2,Zbk e2]
theorem ZnZ {m:Int} (m0:0 < m) {W:Nat} {X:List (List Int)} (h:Rok m W X) {c:Nat} (hc:c < W):Eqd m W (Mx m W X) (Mx m W (X.map (sw c))):=by
 by_cases c0:c=0
 ·
  subst c0
  refine Mx_same' (List.length_map ..) (fun i hi => ?_) fun i hi => ?_
  ·
   have:=Zbu (m:=m) (W:=W) (r:=X.map (sw 0)) (i:=i) (by rw[List.length_map];exact hi)
   rw[ZbB _ _ hi]at this
   refine this.alike fun k hk=>Zaw ?_
   show rd (sw 0 _) (k:Int)=rd _ (k:Int)
   rw[sw_rd (by have:=(h i hi).1;omega) (by have:=(h i hi).1;omega)]
   split
   ·
    rename_i e;rw[e];rfl
   ·
    rfl
  ·
   rw[ZbB _ _ hi]
   refine(Zbu (m:=m) (W:=W) hi).alike fun k hk=>Zaw ?_
   show rd _ (k:Int)=rd (sw 0 _) (k:Int)
   rw[sw_rd (by have:=(h i hi).1;omega) (by have:=(h i hi).1;omega)]
   split
   ·
    rename_i e;rw[e];rfl
   ·
    rfl
 ·
  refine Zj9 m0 (Zeb (r:=W) (a:=0) (b:=c) (p:=0) (q:=1) (s:=1) (t:=0) (p' := 0) (q' := 1) (s' := 1) (t' := 0) (by omega) (by omega) hc rfl rfl rfl rfl rfl rfl rfl rfl) (List.length_map ..) fun n hn i hi => ?_
  rw[ZbB _ _ hn]
  refine Zaw ?_
  show pairT 0 c 0 1 1 0 (V (row X (n:Int))) i=rd (sw c (row X (n:Int))) (i:Int)
  rw[sw_rd (by have:=(h n hn).1;omega) (by have:=(h n hn).1;omega),pairT]
  by_cases e:i=0
  ·
   rw[if_pos e,if_neg (by omega),if_pos e]
   show 0*rd _ _+1*rd _ (c:Int)=_
   omega
  ·
   rw[if_neg e]
   by_cases e2:i=c
   ·
    rw[if_pos e2,if_pos e2]
    show 1*rd _ ((0:Nat):Int)+0*rd _ _=rd _ 0
    rw[show rd (row X (n:Int)) 0=rd (row X (n:Int)) ((0:Nat):Int)from rfl]
    omega
   ·
    rw[if_neg e2,if_neg e2,if_neg e]
    rfl
theorem ZnG {m:Int} (m2:2≤m) (m12:m≤12) {W:Nat} (W0:0 < W) (hW:W≤1000) {X:List (List Int)} (hX:Rok m W X) (hL:X.length≤100000) {at_ c:Nat} (ha:at_ < X.length) (hc:c < W) (hne:¬ rd (row X (at_:Int)) (c:Int)=0) :
  ∃Y,Zi.f X (at_:Int) (c:Int) (W:Int) m=some Y∧CI m W X.length X Y∧(∀j:Nat,1≤j→j < W→T Y 0 (j:Int)=0)∧∀k:Nat,1≤k→k < X.length→T Y (k:Int) 0=0:=by
 have t0:(0:Int).toNat=0:=rfl
 have loop:=up X.length (fun j=>Zi.l0 X (at_:Int) (c:Int) (W:Int) m (j:Int) ((X.take j).map (sw c))) (fun j hj=>by
  obtain⟨lj,aj⟩:=hX j hj
  have hO:=Own_ (row X (j:Int)) (by omega)
  have hl1:((row X (j:Int)).set (0:Int).toNat (T X (j:Int) (c:Int))).length=W:=by rw[List.length_set];exact lj
  have hs:((row X (j:Int)).set (0:Int).toNat (T X (j:Int) (c:Int))).set c (T X (j:Int) 0)=sw c (row X (j:Int)):=rfl
  have ht:(X.take (j+1)).map (sw c)=(X.take j).map (sw c)++[sw c (row X (j:Int))]:=by
   rw[List.take_add_one,List.getElem?_eq_getElem hj,List.map_append,Zbf hj];rfl
  have l1:([sw c (row X (j:Int))]:List (List Int)).length=1:=rfl
  have l2:((X.take j).map (sw c)).length=j:=by simp;omega
  rw[Zi.l0_eq,wn (j:=j) (by omega),ht,hO,Option.bind_some,Int.toNat_natCast,hs]
  ((with_reducible repeat (first|refine Zl (by first|assumption|omega|rfl|exact B_pos (by omega)) ?_|refine Zk (by first|assumption|omega|decide|exact B_not (by omega)) ?_|refine Ze (by first|assumption) ?_|dsimp only));first|done|(with_reducible rfl)|simp (disch:=omega) only[w64]|(show False;done)))
 rw[List.take_zero,List.map_nil,List.take_length]at loop
 obtain⟨r,hr⟩:∃r,r=X.map (sw c):=⟨_,rfl⟩
 have rl:r.length=X.length:=by rw[hr,List.length_map]
 have hrow:∀j:Nat,j < X.length→row r (j:Int)=sw c (row X (j:Int)):=fun j hj=>by rw[hr];exact ZbB _ _ hj
 have rok:Rok m W r:=fun i hi=>by
  obtain⟨a1,a2⟩:=hX i (by omega)
  rw[hrow i (by omega)]
  exact⟨by rw[Zn0];exact a1,sw_in a2 (by omega) (by omega)⟩
 have req:Eqd m W (Mx m W X) (Mx m W r):=by rw[hr];exact ZnZ (by omega) hX hc
 obtain⟨la,aa⟩:=rok at_ (by omega)
 have h0:rd (row r (at_:Int)) ((0:Nat):Int)=rd (row X (at_:Int)) (c:Int):=by
  rw[hrow at_ ha,sw_rd (by have:=(hX at_ ha).1;omega) (by have:=(hX at_ ha).1;omega)]
  split
  ·
   rename_i e;rw[←e];rfl
  ·
   rw[if_pos rfl]
 obtain⟨u,⟨u1,u2⟩,hu,hux,hU⟩:=Unit_ m2 m12 aa (by omega) (j:=0) (by omega) (by rw[h0];exact hne)
 have hU:Zae.f (row r (at_:Int)) 0 m=some (mix m u (row r (at_:Int)) 0 (row r (at_:Int))):=hU
 obtain⟨v,hv⟩:=ZgQ m2 m12 (by omega) u2 hu
 have hsa:r.set (at_:Int).toNat (row r (at_:Int))=r:=by rw[Int.toNat_natCast];exact Zbe r at_
 obtain⟨x0,x1⟩:=rok.bd (i:=at_) (k:=0) (by omega) W0
 obtain⟨x,hx⟩:∃x,x=rd (row r (at_:Int)) ((0:Nat):Int):=⟨_,rfl⟩
 rw[←hx]at x0 x1 hux
 have xne:¬ x=0:=by rw[hx,h0];exact hne
 obtain⟨g,hg⟩:∃g,g=((Int.gcd x m:Nat):Int):=⟨_,rfl⟩
 rw[←hg]at hux
 have g0:0 < g:=by rw[hg];exact_mod_cast Int.gcd_pos_of_ne_zero_left m xne
 have gx:g≤x:=by rw[hg];exact Int.le_of_dvd (by omega) (Int.gcd_dvd_left ..)
 have gm:g∣m:=by rw[hg];exact Int.gcd_dvd_right ..
 have hT:∀r' : List (List Int),row r' 0=mix m u (row r (at_:Int)) 0 (row r (at_:Int))→T r' 0 0=g:=fun r' h=>by
  show rd (row r' 0) ((0:Nat):Int)=g
  rw[h,Zbw (by omega),←hx,Int.zero_mul,Int.add_zero,ZfO hux]
  exact Int.emod_eq_of_lt (by omega) (by omega)
 have main:∃r', Zi.f X (at_:Int) (c:Int) (W:Int) m=Zi.l1 (W:Int) m true r' ∧ CI m W X.length X r' := by
  rw[Zi.f_eq]
  have loop:Zi.l0 X (at_:Int) (c:Int) (W:Int) m 0 []=Zi.l0 X (at_:Int) (c:Int) (W:Int) m (X.length:Int) r:=by rw[hr];exact loop
  rw[loop,Zi.l0_eq]
  by_cases a0:at_=0
  ·
   subst a0
   refine⟨r.set 0 (mix m u (row r ((0:Nat):Int)) 0 (row r ((0:Nat):Int))),?_,?_⟩
   ·
    simp only[hsa]
    (with_reducible repeat (first|refine Zl (by first|assumption|omega|rfl|exact B_pos (by omega)) ?_|refine Zk (by first|assumption|omega|decide|exact B_not (by omega)) ?_|refine Ze (by first|assumption) ?_|dsimp only))
    rfl
   ·
    have e:=hT (r.set 0 (mix m u (row r ((0:Nat):Int)) 0 (row r ((0:Nat):Int)))) (ZaD (j:=0) (by omega))
    exact⟨by rw[List.length_set];exact rl,rok.set ⟨by rw[Za4];exact la,Zb2 (by omega)⟩,req.trans (ZgG (by omega) rok (by omega) hv _),by rw[e];exact g0,by rw[e];exact gm⟩
  ·
   refine⟨(r.set at_ (row r ((0:Nat):Int))).set 0 (mix m u (row r (at_:Int)) 0 (row r (at_:Int))),?_,?_⟩
   ·
    simp only[hsa]
    (with_reducible repeat (first|refine Zl (by first|assumption|omega|rfl|exact B_pos (by omega)) ?_|refine Zk (by first|assumption|omega|decide|exact B_not (by omega)) ?_|refine Ze (by first|assumption) ?_|dsimp only))
    rfl
   ·
    have e:=hT ((r.set at_ (row r ((0:Nat):Int))).set 0 (mix m u (row r (at_:Int)) 0 (row r (at_:Int)))) (ZaD (j:=0) (by rw[List.length_set];omega))
    have k1:=Zjf (m:=m) (W:=W) (r:=r) (i:=at_) (j:=0) (by omega) (by omega)
    obtain⟨r1,hr1⟩:∃r1,r1=(r.set at_ (row r ((0:Nat):Int))).set 0 (row r (at_:Int)):=⟨_,rfl⟩
    have r10:row r1 ((0:Nat):Int)=row r (at_:Int):=by rw[hr1];exact ZaD (by rw[List.length_set];omega)
    have ok1:Rok m W r1:=by rw[hr1];exact(rok.set (rok 0 (by omega))).set ⟨la,aa⟩
    have k2:=ZgG (m:=m) (by omega) ok1 (i:=0) (by rw[hr1,List.length_set,List.length_set];omega) hv (row r (at_:Int))
    rw[r10]at k2
    rw[←hr1]at k1
    have e2:r1.set 0 (mix m u (row r (at_:Int)) 0 (row r (at_:Int)))=(r.set at_ (row r ((0:Nat):Int))).set 0 (mix m u (row r (at_:Int)) 0 (row r (at_:Int))):=by rw[hr1,List.set_set]
    rw[e2]at k2
    exact⟨by rw[List.length_set,List.length_set];exact rl,(rok.set (rok 0 (by omega))).set ⟨by rw[Za4];exact la,Zb2 (by omega)⟩,req.trans (k1.trans k2),by rw[e];exact g0,by rw[e];exact gm⟩
 obtain⟨r', k1,k2⟩:=main
 obtain⟨Y,b1,b2,b3,b4⟩:=ZjA m2 m12 W0 hW (by omega) hL _ r' k2 (.inr (Nat.le_refl _))
 exact⟨Y,by rw[k1,b1],b2,b3,b4⟩
def Fnd (m:Int) (W:Nat) (X:List (List Int)) (Z:Nat→Nat→Prop) (a c best:Int):Prop:=(a = -1∧best=m∧∀i k:Nat,Z i k→rd (row X (i:Int)) (k:Int)=0)∨∃A C:Nat,a=(A:Int)∧c=(C:Int)∧A < X.length∧C < W∧¬ rd (row X (A:Int)) (C:Int)=0
theorem ZmT {m:Int} (m2:2≤m) (m12:m≤12):∀(W:Nat) (X:List (List Int)) (out:List Int),W≤1000→Rok m W X→X.length≤100000→out.length+W≤100000 →
  ∃ns,Zo.l0 m X (W:Int) out=some (out++ns)∧ns.length=W∧(∀n∈ns,0 < n∧n∣m)∧Dg m W (Mx m W X) ns:=by
 intro W
 induction W with
 | zero =>
  intro X out hW hX hL ho
  refine⟨[],?_,rfl,fun n hn=>(by cases hn),.nil (by omega) Sp.sub⟩
  rw[Zo.l0_eq,List.append_nil]
  ((with_reducible repeat (first|refine Zl (by first|assumption|omega|rfl|exact B_pos (by omega)) ?_|refine Zk (by first|assumption|omega|decide|exact B_not (by omega)) ?_|refine Ze (by first|assumption) ?_|dsimp only));first|done|(with_reducible rfl)|simp (disch:=omega) only[w64]|(show False;done))
 | succ W ih =>
  intro X out hW hX hL ho
  have inner:∀(c k i:Nat) (a cc best:Int),k+c=W+1→i < X.length→Fnd m (W+1) X (fun i' k' => i' < i∧k' < W+1∨i' = i∧k' < k) a cc best→∃a' cc' best', Zo.l2 m X ((W+1:Nat):Int) a cc best (i:Int) (k:Int) out=Zo.l1 m X ((W+1:Nat):Int) a' cc' best' ((i+1:Nat):Int) out∧Fnd m (W+1) X (fun i' k' => i' < i+1∧k' < W+1) a' cc' best' := by
   intro c
   induction c with
   | zero =>
    intro k i a cc best hk hi hF
    refine⟨a,cc,best,?_,?_⟩
    ·
     rw[Zo.l2_eq,wn (j:=i) (by omega)]
     ((with_reducible repeat (first|refine Zl (by first|assumption|omega|rfl|exact B_pos (by omega)) ?_|refine Zk (by first|assumption|omega|decide|exact B_not (by omega)) ?_|refine Ze (by first|assumption) ?_|dsimp only));first|done|(with_reducible rfl)|simp (disch:=omega) only[w64]|(show False;done))
    ·
     rcases hF with ⟨h1,h2,h3⟩|hF
     ·
      exact .inl ⟨h1,h2,fun i' k' h=>h3 i' k' (by omega)⟩
     ·
      exact .inr hF
   | succ c ihc =>
    intro k i a cc best hk hi hF
    obtain⟨li,ai⟩:=hX i hi
    obtain⟨x0,x1⟩:=hX.bd (i:=i) (k:=k) hi (by omega)
    obtain⟨x,hx⟩:∃x,x=T X (i:Int) (k:Int):=⟨_,rfl⟩
    have x0:0≤x:=by rw[hx];exact x0
    have x1:x < m:=by rw[hx];exact x1
    have hG:=Gcd_ (a:=x) (b:=m) (by omega) (by omega) (by omega) (by omega)
    have step:∀a cc best,Fnd m (W+1) X (fun i' k' => i' < i∧k' < W+1∨i' = i∧k' < k+1) a cc best→∃a' cc' best', Zo.l2 m X ((W+1:Nat):Int) a cc best (i:Int) ((k+1:Nat):Int) out=Zo.l1 m X ((W+1:Nat):Int) a' cc' best' ((i+1:Nat):Int) out∧Fnd m (W+1) X (fun i' k' => i' < i+1∧k' < W+1) a' cc' best' := fun a cc best h=>ihc (k+1) i a cc best (by omega) hi h
    rw[Zo.l2_eq,wn (j:=k) (by omega),←hx]
    by_cases hx0:x=0
    ·
     obtain ⟨a', cc', best', k1,k2⟩:=step a cc best (by
      rcases hF with ⟨h1,h2,h3⟩|hF
      ·
       refine .inl ⟨h1,h2,fun i' k' h => ?_⟩
       by_cases e:i' = i∧k' = k
       ·
        rw[e.1,e.2,←Tn,←hx];exact hx0
       ·
        exact h3 i' k' (by omega)
      ·
       exact .inr hF)
     refine⟨a', cc', best', ?_,k2⟩
     rw[←k1]
     ((with_reducible repeat (first|refine Zl (by first|assumption|omega|rfl|exact B_pos (by omega)) ?_|refine Zk (by first|assumption|omega|decide|exact B_not (by omega)) ?_|refine Ze (by first|assumption) ?_|dsimp only));first|done|(with_reducible rfl)|simp (disch:=omega) only[w64]|(show False;done))
    ·
     obtain⟨g,hg⟩:∃g,g=((Int.gcd x m:Nat):Int):=⟨_,rfl⟩
     rw[←hg]at hG
     by_cases hb:g < best
     ·
      obtain⟨a', cc', best', k1,k2⟩:=step (i:Int) (k:Int) g (.inr ⟨i,k,rfl,rfl,hi,by omega,by rw[←Tn,←hx];exact hx0⟩)
      refine⟨a', cc', best', ?_,k2⟩
      rw[←k1]
      ((with_reducible repeat (first|refine Zl (by first|assumption|omega|rfl|exact B_pos (by omega)) ?_|refine Zk (by first|assumption|omega|decide|exact B_not (by omega)) ?_|refine Ze (by first|assumption) ?_|dsimp only));first|done|(with_reducible rfl)|simp (disch:=omega) only[w64]|(show False;done))
     ·
      obtain⟨a', cc', best', k1,k2⟩:=step a cc best (by
       rcases hF with ⟨h1,h2,h3⟩|hF
       ·
        exfalso
        have:g≤x:=by rw[hg];exact Int.le_of_dvd (by omega) (Int.gcd_dvd_left ..)
        omega
       ·
        exact .inr hF)
      refine⟨a', cc', best', ?_,k2⟩
      rw[←k1]
      ((with_reducible repeat (first|refine Zl (by first|assumption|omega|rfl|exact B_pos (by omega)) ?_|refine Zk (by first|assumption|omega|decide|exact B_not (by omega)) ?_|refine Ze (by first|assumption) ?_|dsimp only));first|done|(with_reducible rfl)|simp (disch:=omega) only[w64]|(show False;done))
  have outer:∀(c i:Nat) (a cc best:Int),i+c=X.length→Fnd m (W+1) X (fun i' k' => i' < i∧k' < W+1) a cc best→∃a' cc' best', Zo.l1 m X ((W+1:Nat):Int) a cc best (i:Int) out=Zo.l1 m X ((W+1:Nat):Int) a' cc' best' (X.length:Int) out∧Fnd m (W+1) X (fun i' k' => i' < X.length∧k' < W+1) a' cc' best' := by
   intro c
   induction c with
   | zero =>
    intro i a cc best hi hF
    have:i=X.length:=by omega
    subst this
    exact⟨a,cc,best,rfl,hF⟩
   | succ c ihc =>
    intro i a cc best hi hF
    obtain⟨a1,c1,b1,k1,k2⟩:=inner (W+1) 0 i a cc best (by omega) (by omega) (by
     rcases hF with ⟨h1,h2,h3⟩|hF
     ·
      exact .inl ⟨h1,h2,fun i' k' h=>h3 i' k' (by omega)⟩
     ·
      exact .inr hF)
    have k1:Zo.l2 m X ((W+1:Nat):Int) a cc best (i:Int) 0 out=_:=k1
    obtain⟨a2,c2,b2,k3,k4⟩:=ihc (i+1) a1 c1 b1 (by omega) k2
    refine⟨a2,c2,b2,?_,k4⟩
    rw[←k3,←k1,Zo.l1_eq]
    ((with_reducible repeat (first|refine Zl (by first|assumption|omega|rfl|exact B_pos (by omega)) ?_|refine Zk (by first|assumption|omega|decide|exact B_not (by omega)) ?_|refine Ze (by first|assumption) ?_|dsimp only));first|done|(with_reducible rfl)|simp (disch:=omega) only[w64]|(show False;done))
  obtain⟨a,cc,best,k1,k2⟩:=outer X.length 0 (-1) 0 m (by omega) (.inl ⟨rfl,rfl,fun i' k' h=>by omega⟩)
  have k1:Zo.l1 m X ((W+1:Nat):Int) (-1) 0 m 0 out=_:=k1
  have start:Zo.l0 m X ((W+1:Nat):Int) out=Zo.l1 m X ((W+1:Nat):Int) a cc best (X.length:Int) out:=by
   rw[Zo.l0_eq,k1]
   ((with_reducible repeat (first|refine Zl (by first|assumption|omega|rfl|exact B_pos (by omega)) ?_|refine Zk (by first|assumption|omega|decide|exact B_not (by omega)) ?_|refine Ze (by first|assumption) ?_|dsimp only));first|done|(with_reducible rfl)|simp (disch:=omega) only[w64]|(show False;done))
  rw[start,Zo.l1_eq]
  rcases k2 with ⟨h1,h2,h3⟩|⟨A,C,h1,h2,h3,h4,h5⟩
  ·
   subst h1
   have fill:∀(c:Nat) (o:List Int),o.length+c≤100000→Zo.l3 m (c:Int) o=some (o++List.replicate c m):=by
    intro c
    induction c with
    | zero =>
     intro o _
     rw[Zo.l3_eq,List.replicate_zero,List.append_nil]
     ((with_reducible repeat (first|refine Zl (by first|assumption|omega|rfl|exact B_pos (by omega)) ?_|refine Zk (by first|assumption|omega|decide|exact B_not (by omega)) ?_|refine Ze (by first|assumption) ?_|dsimp only));first|done|(with_reducible rfl)|simp (disch:=omega) only[w64]|(show False;done))
    | succ c ihc =>
     intro o ho
     have l1:([m]:List Int).length=1:=rfl
     have w:wrapI (((c+1:Nat):Int) - 1)=(c:Int):=by rw[w64 (by omega) (by omega)];omega
     have:=ihc (o++[m]) (by rw[List.length_append,l1];omega)
     rw[Zo.l3_eq,w,this,List.append_assoc,List.replicate_succ,List.singleton_append]
     ((with_reducible repeat (first|refine Zl (by first|assumption|omega|rfl|exact B_pos (by omega)) ?_|refine Zk (by first|assumption|omega|decide|exact B_not (by omega)) ?_|refine Ze (by first|assumption) ?_|dsimp only));first|done|(with_reducible rfl)|simp (disch:=omega) only[w64]|(show False;done))
   refine⟨List.replicate (W+1) m,?_,List.length_replicate,fun n hn => ?_,?_⟩
   ·
    rw[fill (W+1) out (by omega)]
    ((with_reducible repeat (first|refine Zl (by first|assumption|omega|rfl|exact B_pos (by omega)) ?_|refine Zk (by first|assumption|omega|decide|exact B_not (by omega)) ?_|refine Ze (by first|assumption) ?_|dsimp only));first|done|(with_reducible rfl)|simp (disch:=omega) only[w64]|(show False;done))
   ·
    rw[List.eq_of_mem_replicate hn];exact⟨by omega,Int.dvd_refl m⟩
   ·
    rw[show Mx m (W+1) X=fun x=>∀i,i < W+1→m∣x i from funext fun x=>propext (ZmS (fun r hr i hi=>by
     obtain⟨k,q0,q1,rfl⟩:=ZcW hr
     obtain⟨n,rfl⟩:=Int.eq_ofNat_of_zero_le q0
     exact h3 n i ⟨by omega,hi⟩) x)]
    exact Dg.zero (by omega) (W+1)
  ·
   subst h1;subst h2
   obtain⟨Y,y1,y2,y3,y4⟩:=ZnG m2 m12 (W:=W+1) (by omega) hW hX hL h3 h4 h5
   have yl:=y2.len
   obtain⟨yl0,ya0⟩:=y2.ok 0 (by omega)
   have yl0' : (row Y 0).length=W+1:=yl0
   have lone:([T Y 0 0]:List Int).length=1:=rfl
   obtain⟨F,hF⟩:∃F,F=(Y.drop 1).map fun r=>r.drop 1:=⟨_,rfl⟩
   have Fl:F.length=X.length - 1:=by rw[hF,List.length_map,List.length_drop,yl]
   have Frow:∀i:Nat,i < F.length→row F (i:Int)=(row Y ((i+1:Nat):Int)).drop 1:=fun i hi=>by
    rw[Zbf hi,Zbf (by omega)]
    simp only[hF,List.getElem_map,List.getElem_drop]
    congr 2
    omega
   have loop:=up (X.length - 1) (fun j=>Zo.l4 m Y ((W+1:Nat):Int) ((1+j:Nat):Int) (out++[T Y 0 0]) (F.take j)) (fun j hj=>by
    obtain⟨lj,aj⟩:=y2.ok (1+j) (by omega)
    have e:F.take (j+1)=F.take j++[(row Y ((1+j:Nat):Int)).drop (1:Int).toNat]:=by
     rw[List.take_add_one,List.getElem?_eq_getElem (by omega),←Zbf (by omega),Frow j (by omega),Nat.add_comm 1 j];rfl
    have l1:([(row Y ((1+j:Nat):Int)).drop (1:Int).toNat]:List (List Int)).length=1:=rfl
    have l2:(F.take j).length=j:=by rw[List.length_take];omega
    rw[Zo.l4_eq,wn (j:=1+j) (by omega),e,show 1+(j+1)=1+j+1 from rfl]
    ((with_reducible repeat (first|refine Zl (by first|assumption|omega|rfl|exact B_pos (by omega)) ?_|refine Zk (by first|assumption|omega|decide|exact B_not (by omega)) ?_|refine Ze (by first|assumption) ?_|dsimp only));first|done|(with_reducible rfl)|simp (disch:=omega) only[w64]|(show False;done)))
   rw[show F.take (X.length - 1)=F by rw[←Fl,List.take_length],show 1+(X.length - 1)=X.length by omega]at loop
   have loop:Zo.l4 m Y ((W+1:Nat):Int) 1 (out++[T Y 0 0]) []=_:=loop
   have Fok:Rok m W F:=fun i hi=>by
    obtain⟨b1,b2⟩:=y2.ok (i+1) (by omega)
    rw[Frow i hi]
    exact⟨by rw[List.length_drop,b1];omega,b2.drop 1⟩
   obtain⟨ns,n1,n2,n3,n4⟩:=ih F (out++[T Y 0 0]) (by omega) Fok (by omega) (by rw[List.length_append,lone];omega)
   have w:wrapI (((W+1:Nat):Int) - 1)=(W:Int):=by rw[w64 (by omega) (by omega)];omega
   refine⟨T Y 0 0 :: ns,?_,by rw[List.length_cons,n2],fun n hn => ?_,?_⟩
   ·
    have fin:Zo.l4 m Y ((W+1:Nat):Int) (X.length:Int) (out++[T Y 0 0]) F=some (out++T Y 0 0 :: ns):=by
     rw[Zo.l4_eq,w,n1,List.append_assoc,List.singleton_append]
     ((with_reducible repeat (first|refine Zl (by first|assumption|omega|rfl|exact B_pos (by omega)) ?_|refine Zk (by first|assumption|omega|decide|exact B_not (by omega)) ?_|refine Ze (by first|assumption) ?_|dsimp only));first|done|(with_reducible rfl)|simp (disch:=omega) only[w64]|(show False;done))
    (with_reducible repeat (first|refine Zl (by first|assumption|omega|rfl|exact B_pos (by omega)) ?_|refine Zk (by first|assumption|omega|decide|exact B_not (by omega)) ?_|refine Ze (by first|assumption) ?_|dsimp only))
    rw[loop,fin]
   ·
    rcases List.mem_cons.1 hn with rfl|hn
    ·
     exact⟨y2.pos,y2.dvd⟩
    ·
     exact n3 n hn
   ·
    refine Dg.eqd ?_ y2.eqd
    have hY:Y=row Y ((0:Nat):Int) :: Y.drop 1:=by
     rw[Zbf (by omega)]
     exact(List.drop_eq_getElem_cons (i:=0) (l:=Y) (by omega)).symm ▸ rfl
    refine Dg.cons (by omega) y2.dvd y2.pos Sp.sub (fun x => ?_) n4
    rw[hY,hF]
    refine ZmR y2.dvd rfl (fun i i0 i1=>y3 i (by omega) i1) (fun r hr => ?_) x
    obtain⟨k,q0,q1,e⟩:=ZcW hr
    obtain⟨n,rfl⟩:=Int.eq_ofNat_of_zero_le q0
    rw[List.length_drop]at q1
    have:=y4 (n+1) (by omega) (by omega)
    rw[←e]
    rw[Ti,Zbf (show n+1 < Y.length by omega)]at this
    rw[Zbf (by rw[List.length_drop];omega)]
    show rd ((Y.drop 1)[n]'(by rw[List.length_drop];omega)) ((0:Nat):Int)=0
    rw[List.getElem_drop]
    have e2:1+n=n+1:=by omega
    simp only[e2]
    exact this
end Go.Proofs.YtdamfbighdkcbaaGreat.V
namespace Go.Proofs.YtdamfbighdkcbaaGreat.V
open Go.RowKit Go.Proofs.YtdamfbighdkcbaaGreat.D
def qs:List (Nat×Nat×Nat):=[(2,2,1),(4,2,2),(8,2,4),(3,3,1),(9,3,3),(5,5,1),(7,7,1),(11,11,1)]
def cq (q:Nat) (l:List Int):Nat:=l.countP fun n=>decide (n%(q:Int)=0)
theorem Zcs (q:Nat) (x:Int) (l:List Int):cq q (x :: l)=cq q l+if x%(q:Int)=0 then 1 else 0:=by
 rw[cq,List.countP_cons]
 by_cases h:x%(q:Int)=0
 ·
  rw[if_pos (decide_eq_true h),if_pos h];rfl
 ·
  rw[if_neg (by simpa using h),if_neg h];rfl
theorem Zl5:((List.range 13).all fun m=>(List.range 13).all fun n=>qs.all fun t => !(decide (0 < n) && decide (m%n=0) && decide (m%t.1=0) && decide (0 < m)) || decide (gq (m:Int) (t.2.2:Int) (n:Int)=gq (m:Int) (t.1:Int) (n:Int)*(if(n:Int)%(t.1:Int)=0 then t.2.1 else 1)))=true:=by decide +kernel
theorem Zm9 (m:Nat) (hm:m≤12) (n:Nat) (hn:n≤12) (t:Nat×Nat×Nat) (ht:t∈qs) (n0:0 < n) (h1:m%n=0) (h2:m%t.1=0) (m0:0 < m):gq (m:Int) (t.2.2:Int) (n:Int)=gq (m:Int) (t.1:Int) (n:Int)*(if(n:Int)%(t.1:Int)=0 then t.2.1 else 1):=by
 have h:=List.all_eq_true.1 (List.all_eq_true.1 (List.all_eq_true.1 Zl5 m (List.mem_range.2 (by omega))) n (List.mem_range.2 (by omega))) t ht
 rw[Bool.or_eq_true,decide_eq_true n0,decide_eq_true h1,decide_eq_true h2,decide_eq_true m0]at h
 rcases h with h|h
 ·
  cases h
 ·
  exact of_decide_eq_true h
theorem qs_bd:∀t∈qs,2≤t.1∧2≤t.2.1∧0 < t.2.2∧t.1≤12∧t.1=t.2.1*t.2.2:=by decide
theorem ZgA {m:Int} (m2:2≤m) (m12:m≤12) {t:Nat×Nat×Nat} (ht:t∈qs) (hm:m%(t.1:Int)=0):∀l:List Int,(∀n∈l,0 < n∧n∣m)→prodN (l.map fun n=>gq m (t.2.2:Int) n)=prodN (l.map fun n=>gq m (t.1:Int) n)*t.2.1 ^ cq t.1 l
 | [],_=>by simp[prodN,cq]
 | n :: l,h=>by
  obtain⟨n0,n1⟩:=h n List.mem_cons_self
  have ih:=ZgA m2 m12 ht hm l fun x hx=>h x (List.mem_cons_of_mem _ hx)
  have nm:=Int.le_of_dvd (by omega) n1
  obtain⟨M,rfl⟩:=Int.eq_ofNat_of_zero_le (show 0≤m by omega)
  obtain⟨N,rfl⟩:=Int.eq_ofNat_of_zero_le (Int.le_of_lt n0)
  have k:=Zm9 M (by omega) N (by omega) t ht (by omega) (by have:=Int.emod_eq_zero_of_dvd n1;omega) (by omega) (by omega)
  rw[List.map_cons,List.map_cons,prodN,prodN,ih,k,Zcs]
  by_cases e:(N:Int)%(t.1:Int)=0
  ·
   rw[if_pos e,if_pos e,Nat.pow_succ]
   simp only[Nat.mul_assoc,Nat.mul_comm,Nat.mul_left_comm]
  ·
   rw[if_neg e,if_neg e,Nat.mul_one,Nat.add_zero,Nat.mul_assoc]
theorem Zm8:((List.range 13).all fun m=>(List.range 13).all fun n=>(List.range 13).all fun d => !(decide (0 < n) && decide (0 < d) && decide (0 < m) && decide (m%n=0)) || decide (0 < gq (m:Int) (d:Int) (n:Int)))=true:=by decide +kernel
theorem ZkT (m:Nat) (hm:m≤12) (n:Nat) (hn:n≤12) (d:Nat) (hd:d≤12) (n0:0 < n) (d0:0 < d) (m0:0 < m) (h1:m%n=0):0 < gq (m:Int) (d:Int) (n:Int):=by
 have h:=List.all_eq_true.1 (List.all_eq_true.1 (List.all_eq_true.1 Zm8 m (List.mem_range.2 (by omega))) n (List.mem_range.2 (by omega))) d (List.mem_range.2 (by omega))
 rw[Bool.or_eq_true,decide_eq_true n0,decide_eq_true d0,decide_eq_true m0,decide_eq_true h1]at h
 rcases h with h|h
 ·
  cases h
 ·
  exact of_decide_eq_true h
theorem ZfA:∀l:List Nat,(∀x∈l,0 < x)→0 < prodN l
 | [],_=>by decide
 | x :: l,h=>Nat.mul_pos (h x List.mem_cons_self) (ZfA l fun y hy=>h y (List.mem_cons_of_mem _ hy))
theorem gq_pos' {m:Int} (m2:2≤m) (m12:m≤12) {d n:Int} (d0:0 < d) (d1:d≤12) (n0:0 < n) (n1:n∣m):0 < gq m d n:=by
 have nm:=Int.le_of_dvd (by omega) n1
 obtain⟨M,rfl⟩:=Int.eq_ofNat_of_zero_le (show 0≤m by omega)
 obtain⟨N,rfl⟩:=Int.eq_ofNat_of_zero_le (Int.le_of_lt n0)
 obtain⟨D', rfl⟩:=Int.eq_ofNat_of_zero_le (Int.le_of_lt d0)
 exact ZkT M (by omega) N (by omega) D' (by omega) (by omega) (by omega) (by omega) (by have:=Int.emod_eq_zero_of_dvd n1;omega)
theorem ZhY {m:Int} {q:Nat} (h:¬ m%(q:Int)=0) (q0:0 < q):∀l:List Int,(∀n∈l,n∣m)→cq q l=0
 | [],_=>rfl
 | n :: l,k=>by
  rw[Zcs,ZhY h q0 l fun x hx=>k x (List.mem_cons_of_mem _ hx),if_neg fun e=>h (Int.emod_eq_zero_of_dvd (Int.dvd_trans (Int.dvd_of_emod_eq_zero e) (k n List.mem_cons_self)))]
theorem Zm2 {m:Int} (m2:2≤m) (m12:m≤12) {l l' : List Int} (h:∀n∈l,0 < n∧n∣m) (h' : ∀n∈l', 0 < n∧n∣m) (H:∀d,0 < d→d∣m→prodN (l.map fun n=>gq m d n)=prodN (l'.map fun n=>gq m d n)) {t:Nat×Nat×Nat} (ht:t∈qs):cq t.1 l=cq t.1 l' := by
 obtain⟨b1,b2,b3,b4,b5⟩:=qs_bd t ht
 by_cases hm:m%(t.1:Int)=0
 ·
  have e1:=ZgA m2 m12 ht hm l h
  have e2:=ZgA m2 m12 ht hm l' h'
  have hd:(t.1:Int)∣m:=Int.dvd_of_emod_eq_zero hm
  have hd' : (t.2.2:Int)∣m:=Int.dvd_trans ⟨(t.2.1:Int),by rw[b5];push_cast;rw[Int.mul_comm]⟩ hd
  rw[H _ (by omega) hd', H _ (by omega) hd,e2]at e1
  have hp:0 < prodN (l'.map fun n=>gq m (t.1:Int) n):=ZfA _ fun x hx=>by
   obtain⟨n,hn,rfl⟩:=List.mem_map.1 hx
   exact gq_pos' m2 m12 (by omega) (by omega) (h' n hn).1 (h' n hn).2
  have e3:=Nat.eq_of_mul_eq_mul_left hp e1
  exact((Nat.pow_right_inj (by omega)).1 e3).symm
 ·
  rw[ZhY hm (by omega) l fun n hn=>(h n hn).2,ZhY hm (by omega) l' fun n hn=>(h' n hn).2]
structure Chn (m:Int) (L:List Int):Prop where
 ent:∀x∈L,2≤x∧x∣m
 dvd:L.Pairwise fun x y=>x∣y
theorem Chn.tail {m:Int} {x:Int} {L:List Int} (h:Chn m (x :: L)):Chn m L:=⟨fun y hy=>h.ent y (List.mem_cons_of_mem _ hy),(List.pairwise_cons.1 h.dvd).2⟩
theorem cq_le (q:Nat) (l:List Int):cq q l≤l.length:=List.countP_le_length
theorem ZiP {q:Nat}:∀{l:List Int},(∀x∈l,x%(q:Int)=0)→cq q l=l.length
 | [],_=>rfl
 | x :: l,h=>by rw[Zcs,ZiP fun y hy=>h y (List.mem_cons_of_mem _ hy),if_pos (h x List.mem_cons_self),List.length_cons]
theorem Zeo {a b q:Int} (h:a∣b) (k:a%q=0):b%q=0:=Int.emod_eq_zero_of_dvd (Int.dvd_trans (Int.dvd_of_emod_eq_zero k) h)
theorem Zko {q:Nat}:∀{L:List Int},(L.Pairwise fun x y=>x∣y)→∀i:Nat,i < L.length→(rd L (i:Int)%(q:Int)=0↔L.length - i≤cq q L)
 | [],_,i,hi=>absurd hi (Nat.not_lt_zero _)
 | x :: L,h,i,hi=>by
  obtain⟨h1,h2⟩:=List.pairwise_cons.1 h
  rw[List.length_cons]at hi ⊢
  by_cases e:x%(q:Int)=0
  ·
   have ha:cq q L=L.length:=ZiP fun y hy=>Zeo (h1 y hy) e
   rw[Zcs,if_pos e,ha]
   refine⟨fun _=>by omega,fun _ => ?_⟩
   cases i with
   | zero=>rw[rd_c0];exact e
   | succ i=>rw[rd_cs];exact Zeo (h1 _ (ZcD (by omega) (by omega))) e
  ·
   rw[Zcs,if_neg e]
   cases i with
   | zero =>
    rw[rd_c0]
    have:=cq_le q L
    exact⟨fun k=>absurd k e,fun k=>by omega⟩
   | succ i =>
    rw[rd_cs,Zko h2 i (by omega)]
    omega
theorem Zml:((List.range 13).all fun x=>(List.range 13).all fun y=>decide (x=0) || decide (y=0) || decide (x=y) || !(qs.all fun t=>decide ((x:Int)%(t.1:Int)=0) == decide ((y:Int)%(t.1:Int)=0)))=true:=by decide +kernel
theorem same12 (x:Nat) (hx:x≤12) (y:Nat) (hy:y≤12) (x0:0 < x) (y0:0 < y) (H:∀t∈qs,(decide ((x:Int)%(t.1:Int)=0))=(decide ((y:Int)%(t.1:Int)=0))):x=y:=by
 have h:=List.all_eq_true.1 (List.all_eq_true.1 Zml x (List.mem_range.2 (by omega))) y (List.mem_range.2 (by omega))
 have k:(qs.all fun t=>decide ((x:Int)%(t.1:Int)=0) == decide ((y:Int)%(t.1:Int)=0))=true:=List.all_eq_true.2 fun t ht=>by rw[H t ht];exact beq_self_eq_true _
 rw[k,Bool.or_eq_true,Bool.or_eq_true,Bool.or_eq_true,decide_eq_true_iff,decide_eq_true_iff,decide_eq_true_iff]at h
 rcases h with ((h|h)|h)|h
 ·
  omega
 ·
  omega
 ·
  exact h
 ·
  cases h
theorem Zmo:((List.range 13).all fun x=>decide (x < 2) || (qs.any fun t=>decide ((x:Int)%(t.1:Int)=0)))=true:=by decide +kernel
theorem some12 (x:Nat) (hx:x≤12) (x2:2≤x):∃t∈qs,(x:Int)%(t.1:Int)=0:=by
 have h:=List.all_eq_true.1 Zmo x (List.mem_range.2 (by omega))
 rw[Bool.or_eq_true,decide_eq_true_iff]at h
 rcases h with h|h
 ·
  omega
 ·
  obtain⟨t,ht,h⟩:=List.any_eq_true.1 h
  exact⟨t,ht,of_decide_eq_true h⟩
theorem Zkp {m:Int} (m2:2≤m) (m12:m≤12) {L L' : List Int} (h:Chn m L) (H:∀t∈qs,cq t.1 L=cq t.1 L'):L.length≤L'.length:=by
 cases L with
 | nil=>exact Nat.zero_le _
 | cons x L =>
  obtain⟨x2,x1⟩:=h.ent x List.mem_cons_self
  have:=Int.le_of_dvd (by omega) x1
  obtain⟨t,ht,e⟩:=some12 x.toNat (by omega) (by omega)
  rw[Int.toNat_of_nonneg (by omega)]at e
  have:cq t.1 (x :: L)=(x :: L).length:=ZiP fun y hy=>by
   rcases List.mem_cons.1 hy with rfl|hy
   ·
    exact e
   ·
    exact Zeo ((List.pairwise_cons.1 h.dvd).1 y hy) e
  rw[←this,H t ht]
  exact cq_le _ _
theorem ZlO {m:Int} (m2:2≤m) (m12:m≤12) {L L' : List Int} (h:Chn m L) (h' : Chn m L') (H:∀t∈qs,cq t.1 L=cq t.1 L'):L=L' := by
 have hl:L.length=L'.length:=Nat.le_antisymm (Zkp m2 m12 h H) (Zkp m2 m12 h' fun t ht=>(H t ht).symm)
 refine Zfg hl fun i i0 i1 => ?_
 obtain⟨n,rfl⟩:=Int.eq_ofNat_of_zero_le i0
 obtain⟨a2,a1⟩:=h.ent _ (ZcD i0 i1)
 obtain⟨b2,b1⟩:=h'.ent _ (ZcD i0 (by omega))
 have a3:=Int.le_of_dvd (by omega) a1
 have b3:=Int.le_of_dvd (by omega) b1
 have:=same12 (rd L (n:Int)).toNat (by omega) (rd L' (n:Int)).toNat (by omega) (by omega) (by omega) fun t ht=>by
  rw[Int.toNat_of_nonneg (by omega),Int.toNat_of_nonneg (by omega)]
  refine decide_eq_decide.2 ?_
  rw[Zko h.dvd n (by omega),Zko h'.dvd n (by omega),H t ht,hl]
 omega
end Go.Proofs.YtdamfbighdkcbaaGreat.V
namespace Go.Proofs.YtdamfbighdkcbaaGreat.V
open Go.RowKit Go.Proofs.YtdamfbighdkcbaaGreat.D Go.Proofs.YtdamfbighdkcbaaGreat.P
def prm5:List Nat:=[2,3,5,7,11]
theorem Zmx {p:Nat} (h2:2≤p) (h12:p≤12):Zah.f (p:Int)=some (decide (p∈prm5)):=by
 have w1:wrapI (2*2)=4:=w64 (by omega) (by omega)
 have w2:wrapI (3*3)=9:=w64 (by omega) (by omega)
 have w3:wrapI (4*4)=16:=w64 (by omega) (by omega)
 have v1:wrapI (2+1)=3:=w64 (by omega) (by omega)
 have v2:wrapI (3+1)=4:=w64 (by omega) (by omega)
 have hp:p=2∨p=3∨p=4∨p=5∨p=6∨p=7∨p=8∨p=9∨p=10∨p=11∨p=12:=by omega
 rw[Zah.f_eq]
 rcases hp with rfl|rfl|rfl|rfl|rfl|rfl|rfl|rfl|rfl|rfl|rfl
 all_goals
  rw[Zah.l0_eq,w1,v1]
  try rw[Zah.l0_eq,w2,v2]
  try rw[Zah.l0_eq,w3]
  first|rfl|(rw[if_neg (by decide)];rfl)|(rw[if_pos (by decide),if_neg (by decide),if_pos (by decide)];rfl)|(rw[if_pos (by decide),if_neg (by decide),if_neg (by decide),if_neg (by decide)];rfl)|(rw[if_pos (by decide),if_neg (by decide),if_neg (by decide),if_pos (by decide),if_neg (by decide),if_pos (by decide)];rfl)|(rw[if_pos (by decide),if_neg (by decide),if_neg (by decide),if_pos (by decide),if_neg (by decide),if_neg (by decide),if_neg (by decide)];rfl)
def ppt (p n:Nat):Nat:=prodN (qs.map fun t=>if t.2.1=p∧n%t.1=0 then p else 1)
theorem Znq:(prm5.all fun p=>(List.range 13).all fun n=>(List.range 13).all fun x=>decide (n=0) || decide (x=0) || !decide (n%x=0) || decide (n%(x*p)=0) || !decide (x∈[1,p,p*p,p*p*p]) || decide (x=ppt p n))=true:=by decide +kernel
theorem Znn:(prm5.all fun p=>(List.range 13).all fun n=>qs.all fun t=>decide (n=0) || !decide (t.2.1=p) || (decide ((ppt p n)%t.1=0) == decide (n%t.1=0)))=true:=by decide +kernel
theorem Znp:(prm5.all fun p=>(List.range 13).all fun n=>decide (n=0) || (decide (1 < ppt p n) == decide (n%p=0)) && decide (0 < ppt p n) && decide (ppt p n≤n) && decide (ppt p (ppt p n)=ppt p n))=true:=by decide +kernel
theorem Zlg:(prm5.all fun p=>(List.range 13).all fun n=>(List.range 13).all fun k=>decide (n=0) || decide (k=0) || decide (ppt p k < ppt p n) || decide (ppt p k%ppt p n=0))=true:=by decide +kernel
theorem all13 {P:Nat→Bool} (h:(List.range 13).all P=true) {n:Nat} (hn:n≤12):P n=true:=List.all_eq_true.1 h n (List.mem_range.2 (by omega))
theorem ZnX {p n x:Nat} (hp:p∈prm5) (n0:0 < n) (hn:n≤12) (hx:x∈[1,p,p*p,p*p*p]) (x0:0 < x) (h1:n%x=0) (h2:¬ n%(x*p)=0):x=ppt p n:=by
 have hxn:x≤n:=Nat.le_of_dvd n0 (Nat.dvd_of_mod_eq_zero h1)
 have h:=all13 (all13 (List.all_eq_true.1 Znq p hp) hn) (show x≤12 by omega)
 simp only[Bool.or_eq_true,decide_eq_true_eq,Bool.not_eq_true', decide_eq_false_iff_not]at h
 rcases h with ((((h|h)|h)|h)|h)|h
 ·
  omega
 ·
  omega
 ·
  exact absurd h1 h
 ·
  exact absurd h h2
 ·
  exact absurd hx h
 ·
  exact h
theorem Zin {p n:Nat} (hp:p∈prm5) (n0:0 < n) (hn:n≤12) {t:Nat×Nat×Nat} (ht:t∈qs) (e:t.2.1=p):(ppt p n)%t.1=0↔n%t.1=0:=by
 have h:=List.all_eq_true.1 (all13 (List.all_eq_true.1 Znn p hp) hn) t ht
 simp only[Bool.or_eq_true,decide_eq_true_eq,Bool.not_eq_true', decide_eq_false_iff_not,beq_iff_eq,decide_eq_decide]at h
 rcases h with (h|h)|h
 ·
  omega
 ·
  exact absurd e h
 ·
  exact h
theorem Zlf {p n:Nat} (hp:p∈prm5) (n0:0 < n) (hn:n≤12):(1 < ppt p n↔n%p=0)∧0 < ppt p n∧ppt p n≤n∧ppt p (ppt p n)=ppt p n:=by
 have h:=all13 (List.all_eq_true.1 Znp p hp) hn
 simp only[Bool.or_eq_true,Bool.and_eq_true,decide_eq_true_eq,beq_iff_eq,decide_eq_decide]at h
 rcases h with h|⟨⟨⟨h1,h2⟩,h3⟩,h4⟩
 ·
  omega
 ·
  exact⟨h1,h2,h3,h4⟩
theorem Zno {p n k:Nat} (hp:p∈prm5) (n0:0 < n) (hn:n≤12) (k0:0 < k) (hk:k≤12) (h:ppt p n≤ppt p k):ppt p n∣ppt p k:=by
 have g:=all13 (all13 (List.all_eq_true.1 Zlg p hp) hn) hk
 simp only[Bool.or_eq_true,decide_eq_true_eq]at g
 rcases g with ((g|g)|g)|g
 ·
  omega
 ·
  omega
 ·
  omega
 ·
  exact Nat.dvd_of_mod_eq_zero g
theorem prm5_mem {p:Nat} (h:p∈prm5):p=2∨p=3∨p=5∨p=7∨p=11:=by simpa [prm5] using h
theorem Zms (a b:Nat):Int.tmod (a:Int) (b:Int)=((a%b:Nat):Int):=by rw[Zdt (by omega)];rfl
theorem Zfd {os:List Int} {p i:Nat} (hp:p∈prm5) (hi:i < os.length) {n:Nat} (hn:rd os (i:Int)=(n:Int)) (n0:0 < n) (n12:n≤12) {r0 r1:List Int} {R:Option (List Int)}
  (h1:ppt p n=1→Zh.l1 os (p:Int) ((i+1:Nat):Int) r0 r1=R) (hl:r1.length≤100000)
  (h2:¬ ppt p n=1→Zh.l5 os (p:Int) (i:Int) ((ppt p n:Nat):Int) (r1.length:Int) r0 (r1++[((ppt p n:Nat):Int)])=R) (hi2:os.length≤100000) :
  Zh.l3 os (p:Int) (i:Int) 1 r0 r1=R:=by
 have p5:=prm5_mem hp
 have hP:=Zmx (p:=p) (by omega) (by omega)
 rw[decide_eq_true hp]at hP
 have tt:true=true:=rfl
 have key:∀(c x:Nat),13≤x+c→0 < x→n%x=0→x∈[1,p,p*p,p*p*p]→Zh.l3 os (p:Int) (i:Int) (x:Int) r0 r1=R:=by
  intro c
  induction c with
  | zero =>
   intro x hx x0 hd _
   have:=Nat.le_of_dvd n0 (Nat.dvd_of_mod_eq_zero hd)
   omega
  | succ c ih =>
   intro x hx x0 hd hm
   have hxn:=Nat.le_of_dvd n0 (Nat.dvd_of_mod_eq_zero hd)
   have xp:x*p≤12*12:=Nat.mul_le_mul (by omega) (by omega)
   have w:wrapI ((x:Int)*(p:Int))=((x*p:Nat):Int):=by rw[w64 (by rw[←Int.natCast_mul];omega) (by rw[←Int.natCast_mul];omega),Int.natCast_mul]
   have xp0:0 < x*p:=Nat.mul_pos x0 (by omega)
   have wl:([((x:Nat):Int)]:List Int).length=1:=rfl
   rw[Zh.l3_eq,w,hn,Zms,wn (j:=i) (by omega)]
   by_cases hk:n%(x*p)=0
   ·
    have hle:=Nat.le_of_dvd n0 (Nat.dvd_of_mod_eq_zero hk)
    have hx2:x+1≤x*p:=by
     have:x*2≤x*p:=Nat.mul_le_mul_left x (by omega)
     omega
    have hm' : x*p∈[1,p,p*p,p*p*p]:=by
     simp only[List.mem_cons,List.not_mem_nil,or_false]at hm ⊢
     rcases hm with h|h|h|h
     ·
      rw[h,Nat.one_mul];exact .inr (.inl rfl)
     ·
      rw[h];exact .inr (.inr (.inl rfl))
     ·
      rw[h];exact .inr (.inr (.inr rfl))
     ·
      exfalso
      rw[h]at hle
      rcases p5 with rfl|rfl|rfl|rfl|rfl <;> omega
    have:=ih (x*p) (by omega) xp0 hk hm'
    rw[hk]
    (with_reducible repeat (first|refine Zl (by first|assumption|omega|rfl|exact B_pos (by omega)) ?_|refine Zk (by first|assumption|omega|decide|exact B_not (by omega)) ?_|refine Ze (by first|assumption) ?_|dsimp only))
    exact this
   ·
    have e:=ZnX hp n0 n12 hm x0 hd hk
    have hk' : ¬ ((n%(x*p):Nat):Int)=0:=by omega
    by_cases h:x=1
    ·
     have:=h1 (by rw[←e];exact h)
     (with_reducible repeat (first|refine Zl (by first|assumption|omega|rfl|exact B_pos (by omega)) ?_|refine Zk (by first|assumption|omega|decide|exact B_not (by omega)) ?_|refine Ze (by first|assumption) ?_|dsimp only))
     exact this
    ·
     have:=h2 (by rw[←e];exact h)
     rw[←e]at this
     (with_reducible repeat (first|refine Zl (by first|assumption|omega|rfl|exact B_pos (by omega)) ?_|refine Zk (by first|assumption|omega|decide|exact B_not (by omega)) ?_|refine Ze (by first|assumption) ?_|dsimp only))
     exact this
 exact key 12 1 (by omega) (by omega) (Nat.mod_one n) List.mem_cons_self
theorem Zg2 {os:List Int} {p i:Nat} {x:Int} {r0:List Int} (hi:i < 100000):∀(k:Nat) (A B:List Int) (y:Int),A.length=k→A.length+B.length≤100000→(∀b∈B,b < x) →
  ∃A' B', A++B=A' ++ B' ∧ (∀b∈B', b < x)∧(A' = []∨∃A'' z,A' = A'' ++ [z]∧x≤z)∧Zh.l5 os (p:Int) (i:Int) x (k:Int) r0 (A++y :: B)=Zh.l1 os (p:Int) ((i+1:Nat):Int) r0 (A' ++ x :: B'):=by
 intro k
 induction k with
 | zero =>
  intro A B y hA hl hB
  have:=List.eq_nil_of_length_eq_zero hA
  subst this
  refine⟨[],B,rfl,hB,.inl rfl,?_⟩
  have l1:(([]:List Int)++y :: B).length=B.length+1:=by simp
  rw[Zh.l5_eq,wn (j:=i) (by omega)]
  (with_reducible repeat (first|refine Zl (by first|assumption|omega|rfl|exact B_pos (by omega)) ?_|refine Zk (by first|assumption|omega|decide|exact B_not (by omega)) ?_|refine Ze (by first|assumption) ?_|dsimp only))
  rfl
 | succ k ih =>
  intro A B y hA hl hB
  obtain⟨A0,z,rfl⟩:∃A0 z,A=A0++[z]:=by
   rcases List.eq_nil_or_concat A with h|⟨a,b,h⟩
   ·
    rw[h]at hA;cases hA
   ·
    exact⟨a,b,by rw[h,List.concat_eq_append]⟩
  have hA0:A0.length=k:=by rw[List.length_append,List.length_singleton]at hA;omega
  have ll:((A0++[z])++y :: B).length=k+1+(B.length+1):=by rw[List.length_append,hA,List.length_cons]
  have hlz:(A0++[z]).length=k+1:=hA
  have w:wrapI (((k+1:Nat):Int) - 1)=(k:Int):=by rw[w64 (by omega) (by omega)];omega
  have hz:rd ((A0++[z])++y :: B) (k:Int)=z:=by
   rw[Zbi (by omega),List.getElem_append_left (by omega),List.getElem_append_right (by omega)]
   simp[hA0]
  rw[Zh.l5_eq,w,hz,wn (j:=i) (by omega),Int.toNat_natCast]
  by_cases h:z < x
  ·
   obtain⟨A', B', k1,k2,k3,k4⟩:=ih A0 (z :: B) z hA0 (by rw[List.length_cons];omega) (fun b hb=>by
    rcases List.mem_cons.1 hb with rfl|hb
    ·
     exact h
    ·
     exact hB b hb)
   refine⟨A', B', by rw[←k1,List.append_assoc];rfl,k2,k3,?_⟩
   have hs:((A0++[z])++y :: B).set (k+1) z=A0++z :: z :: B:=by
    rw[List.set_append_right _ _ (by omega),hA,Nat.sub_self,List.set_cons_zero,List.append_assoc];rfl
   rw[←k4,hs]
   ((with_reducible repeat (first|refine Zl (by first|assumption|omega|rfl|exact B_pos (by omega)) ?_|refine Zk (by first|assumption|omega|decide|exact B_not (by omega)) ?_|refine Ze (by first|assumption) ?_|dsimp only));first|done|(with_reducible rfl)|simp (disch:=omega) only[w64]|(show False;done))
  ·
   refine⟨A0++[z],B,rfl,hB,.inr ⟨A0,z,rfl,by omega⟩,?_⟩
   have hs:((A0++[z])++y :: B).set (k+1) x=(A0++[z])++x :: B:=by
    rw[List.set_append_right _ _ (by omega),hA,Nat.sub_self,List.set_cons_zero]
   rw[hs]
   ((with_reducible repeat (first|refine Zl (by first|assumption|omega|rfl|exact B_pos (by omega)) ?_|refine Zk (by first|assumption|omega|decide|exact B_not (by omega)) ?_|refine Ze (by first|assumption) ?_|dsimp only));first|done|(with_reducible rfl)|simp (disch:=omega) only[w64]|(show False;done))
theorem ZdX (q:Nat) (a b:List Int):cq q (a++b)=cq q a+cq q b:=List.countP_append
structure Pws (os:List Int) (p i:Nat) (r:List Int):Prop where
 ent:∀x∈r,∃n:Nat,0 < n∧n≤12∧1 < ppt p n∧x=((ppt p n:Nat):Int)
 srt:r.Pairwise fun a b=>b≤a
 cnt:∀t∈qs,t.2.1=p→cq t.1 r=cq t.1 (os.take i)
 len:r.length≤i
theorem ZhU {os:List Int} (hos:∀n∈os,0 < n∧n≤12) (hl:os.length≤1000) {p:Nat} (hp:p∈prm5) {r0:List Int}:∃r,Zh.l1 os (p:Int) 0 r0 []=Zh.l4 os (p:Int) 0 r0 r∧Pws os p os.length r:=by
 have key:∀(c i:Nat) (r:List Int),i+c=os.length→Pws os p i r→∃r', Zh.l1 os (p:Int) (i:Int) r0 r=Zh.l4 os (p:Int) 0 r0 r' ∧ Pws os p os.length r' := by
  intro c
  induction c with
  | zero =>
   intro i r hi hP
   have:i=os.length:=by omega
   subst this
   refine⟨r,?_,hP⟩
   rw[Zh.l1_eq]
   ((with_reducible repeat (first|refine Zl (by first|assumption|omega|rfl|exact B_pos (by omega)) ?_|refine Zk (by first|assumption|omega|decide|exact B_not (by omega)) ?_|refine Ze (by first|assumption) ?_|dsimp only));first|done|(with_reducible rfl)|simp (disch:=omega) only[w64]|(show False;done))
  | succ c ih =>
   intro i r hi hP
   have hil:i < os.length:=by omega
   obtain⟨a0,a1⟩:=hos _ (ZcD (i:=(i:Int)) (by omega) (by omega))
   obtain⟨n,hn⟩:=Int.eq_ofNat_of_zero_le (Int.le_of_lt a0)
   have n0:0 < n:=by omega
   have n12:n≤12:=by omega
   obtain⟨b1,b2,b3,b4⟩:=Zlf hp n0 n12
   have tk:os.take (i+1)=os.take i++[(n:Int)]:=by rw[List.take_add_one,List.getElem?_eq_getElem hil,←Zbi hil,hn];rfl
   have one:∀q:Nat,cq q [(n:Int)]=if n%q=0 then 1 else 0:=fun q=>by
    rw[Zcs]
    show 0+_=_
    rw[Nat.zero_add]
    by_cases h:n%q=0
    ·
     rw[if_pos h,if_pos (by omega)]
    ·
     rw[if_neg h,if_neg (by omega)]
   have one' : ∀q:Nat,cq q [((ppt p n:Nat):Int)]=if ppt p n%q=0 then 1 else 0:=fun q=>by
    rw[Zcs]
    show 0+_=_
    rw[Nat.zero_add]
    by_cases h:ppt p n%q=0
    ·
     rw[if_pos h,if_pos (by omega)]
    ·
     rw[if_neg h,if_neg (by omega)]
   have rl:=hP.len
   have goal:∃r', Zh.l3 os (p:Int) (i:Int) 1 r0 r=Zh.l1 os (p:Int) ((i+1:Nat):Int) r0 r' ∧ Pws os p (i+1) r' := by
    by_cases h:ppt p n=1
    ·
     refine⟨r,Zfd hp hil hn n0 n12 (fun _=>rfl) (by omega) (fun k=>absurd h k) (by omega),hP.ent,hP.srt,fun t ht e => ?_,by omega⟩
     have hb:=qs_bd t ht
     rw[tk,ZdX,one,hP.cnt t ht e,if_neg fun hz => ?_,Nat.add_zero]
     have:=(Zin hp n0 n12 ht e).2 hz
     rw[h,Nat.mod_eq_of_lt (by omega)]at this
     omega
    ·
     obtain⟨A', B', k1,k2,k3,k4⟩:=Zg2 (os:=os) (p:=p) (i:=i) (x:=((ppt p n:Nat):Int)) (r0:=r0) (by omega) r.length r [] ((ppt p n:Nat):Int) rfl (by rw[List.length_nil];omega) (fun b hb=>by cases hb)
     rw[List.append_nil]at k1
     refine⟨A' ++ ((ppt p n:Nat):Int) :: B', Zfd hp hil hn n0 n12 (fun k=>absurd k h) (by omega) (fun _=>k4) (by omega),fun x hx => ?_,?_,fun t ht e => ?_,?_⟩
     ·
      rcases List.mem_append.1 hx with hx|hx
      ·
       exact hP.ent x (by rw[k1];exact List.mem_append_left _ hx)
      ·
       rcases List.mem_cons.1 hx with rfl|hx
       ·
        exact⟨n,n0,n12,by omega,rfl⟩
       ·
        exact hP.ent x (by rw[k1];exact List.mem_append_right _ hx)
     ·
      have hs:=hP.srt
      rw[k1]at hs
      obtain⟨s1,s2,s3⟩:=List.pairwise_append.1 hs
      refine List.pairwise_append.2 ⟨s1,List.pairwise_cons.2 ⟨fun b hb=>Int.le_of_lt (k2 b hb),s2⟩,fun a ha b hb => ?_⟩
      rcases List.mem_cons.1 hb with rfl|hb
      ·
       rcases k3 with k3|⟨A'', z,k3,k5⟩
       ·
        rw[k3]at ha;cases ha
       ·
        rw[k3]at ha s1
        rcases List.mem_append.1 ha with ha|ha
        ·
         have:=(List.pairwise_append.1 s1).2.2 a ha z (List.mem_singleton.2 rfl)
         omega
        ·
         rw[List.mem_singleton.1 ha];exact k5
      ·
       exact s3 a ha b hb
     ·
      rw[tk,ZdX t.1 (os.take i),one,←hP.cnt t ht e,k1,ZdX t.1 A' B', ZdX t.1 A' (_ :: B'),Zcs]
      have hm:=Zin hp n0 n12 ht e
      by_cases hz:n%t.1=0
      ·
       rw[if_pos hz,if_pos (by have:=hm.2 hz;omega)];omega
      ·
       rw[if_neg hz,if_neg (by intro h';exact hz (hm.1 (by omega)))];omega
     ·
      rw[List.length_append,List.length_cons]
      have:=congrArg List.length k1
      rw[List.length_append]at this
      omega
   obtain⟨r1,g1,g2⟩:=goal
   obtain⟨r', g3,g4⟩:=ih (i+1) r1 (by omega) g2
   refine⟨r', ?_,g4⟩
   rw[←g3,←g1,Zh.l1_eq]
   ((with_reducible repeat (first|refine Zl (by first|assumption|omega|rfl|exact B_pos (by omega)) ?_|refine Zk (by first|assumption|omega|decide|exact B_not (by omega)) ?_|refine Ze (by first|assumption) ?_|dsimp only));first|done|(with_reducible rfl)|simp (disch:=omega) only[w64]|(show False;done))
 exact key os.length 0 [] (by omega) ⟨fun x hx=>(by cases hx),List.Pairwise.nil,fun t _ _=>rfl,Nat.le_refl _⟩
theorem ZhT {os:List Int} (hos:∀n∈os,0 < n∧n≤12) (hl:os.length≤1000) {p:Nat} (p2:2≤p) (p12:p≤12) (hp:p ∉ prm5) {r0:List Int}:Zh.l1 os (p:Int) 0 r0 []=Zh.l4 os (p:Int) 0 r0 []:=by
 have hP:=Zmx p2 p12
 rw[decide_eq_false hp]at hP
 have ff:¬ false=true:=Bool.false_ne_true
 have loop:=up os.length (fun i=>Zh.l1 os (p:Int) (i:Int) r0 []) (fun i hi=>by
  obtain⟨a0,a1⟩:=hos _ (ZcD (i:=(i:Int)) (by omega) (by omega))
  have w:wrapI (1*(p:Int))=(p:Int):=by rw[w64 (by omega) (by omega)];omega
  have e1:(1:Int)=1:=rfl
  rw[Zh.l1_eq]
  (with_reducible repeat (first|refine Zl (by first|assumption|omega|rfl|exact B_pos (by omega)) ?_|refine Zk (by first|assumption|omega|decide|exact B_not (by omega)) ?_|refine Ze (by first|assumption) ?_|dsimp only))
  rw[Zh.l3_eq,w,wn (j:=i) (by omega)]
  by_cases h:Int.tmod (rd os (i:Int)) (p:Int)=0
  ·
   ((with_reducible repeat (first|refine Zl (by first|assumption|omega|rfl|exact B_pos (by omega)) ?_|refine Zk (by first|assumption|omega|decide|exact B_not (by omega)) ?_|refine Ze (by first|assumption) ?_|dsimp only));first|done|(with_reducible rfl)|simp (disch:=omega) only[w64]|(show False;done))
  ·
   ((with_reducible repeat (first|refine Zl (by first|assumption|omega|rfl|exact B_pos (by omega)) ?_|refine Zk (by first|assumption|omega|decide|exact B_not (by omega)) ?_|refine Ze (by first|assumption) ?_|dsimp only));first|done|(with_reducible rfl)|simp (disch:=omega) only[w64]|(show False;done)))
 have loop:Zh.l1 os (p:Int) 0 r0 []=Zh.l1 os (p:Int) (os.length:Int) r0 []:=loop
 rw[loop,Zh.l1_eq]
 ((with_reducible repeat (first|refine Zl (by first|assumption|omega|rfl|exact B_pos (by omega)) ?_|refine Zk (by first|assumption|omega|decide|exact B_not (by omega)) ?_|refine Ze (by first|assumption) ?_|dsimp only));first|done|(with_reducible rfl)|simp (disch:=omega) only[w64]|(show False;done))
end Go.Proofs.YtdamfbighdkcbaaGreat.V
namespace Go.Proofs.YtdamfbighdkcbaaGreat.V
open Go.RowKit Go.Proofs.YtdamfbighdkcbaaGreat.D Go.Proofs.YtdamfbighdkcbaaGreat.P
theorem Zkz {q:Nat}:∀{L:List Int},(L.Pairwise fun x y=>y∣x)→∀i:Nat,i < L.length→(rd L (i:Int)%(q:Int)=0↔i < cq q L)
 | [],_,i,hi=>absurd hi (Nat.not_lt_zero _)
 | x :: L,h,i,hi=>by
  obtain⟨h1,h2⟩:=List.pairwise_cons.1 h
  rw[List.length_cons]at hi
  by_cases e:x%(q:Int)=0
  ·
   rw[Zcs,if_pos e]
   cases i with
   | zero=>rw[rd_c0];exact⟨fun _=>by omega,fun _=>e⟩
   | succ i=>rw[rd_cs,Zkz h2 i (by omega)];omega
  ·
   have hz:cq q L=0:=List.countP_eq_zero.2 fun y hy k=>e (Zeo (h1 y hy) (by simpa using k))
   rw[Zcs,if_neg e,hz]
   cases i with
   | zero=>rw[rd_c0];exact⟨fun k=>absurd k e,fun k=>by omega⟩
   | succ i =>
    rw[rd_cs]
    refine⟨fun k => ?_,fun k=>by omega⟩
    exact absurd (Zeo (h1 _ (ZcD (by omega) (by omega))) k) e
theorem Zkx {q : Nat}:∀{L:List Int} {c:Nat},c≤L.length→(∀i:Nat,i < L.length→(rd L (i:Int)%(q:Int)=0↔i < c))→cq q L=c
  | [], c, hc, _ => by rw[List.length_nil]at hc;have:c=0:=by omega
                       subst this;rfl
  | x :: L,c,hc,h=>by
    rw[List.length_cons]at hc
    have h0:=h 0 (by rw[List.length_cons];omega)
    rw[rd_c0]at h0
    rw[Zcs]
    cases c with
    | zero =>
      rw[if_neg fun k=>absurd (h0.1 k) (by omega),Zkx (c:=0) (by omega) fun i hi => ?_]
      have:=h (i+1) (by rw[List.length_cons];omega)
      rw[rd_cs]at this
      rw[this];omega
    | succ c =>
      rw[if_pos (h0.2 (by omega)),Zkx (c:=c) (by omega) fun i hi => ?_]
      have:=h (i+1) (by rw[List.length_cons];omega)
      rw[rd_cs]at this
      rw[this];omega
def rd1 (o:List Int) (i:Nat):Int:=if i < o.length then rd o (i:Int)else 1
def evp (os:List Int) (p i:Nat):Nat:=prodN (qs.map fun t=>if t.2.1=p∧i < cq t.1 os then p else 1)
def ent (os:List Int) (P i:Nat):Nat:=prodN (qs.map fun t=>if t.2.1 < P∧i < cq t.1 os then t.2.1 else 1)
theorem Zgj (os:List Int) (P i:Nat):ent os (P+1) i=ent os P i*evp os P i:=by
 have : ∀l:List (Nat×Nat×Nat),prodN (l.map fun t=>if t.2.1 < P+1∧i < cq t.1 os then t.2.1 else 1)=prodN (l.map fun t=>if t.2.1 < P∧i < cq t.1 os then t.2.1 else 1)*prodN (l.map fun t=>if t.2.1=P∧i < cq t.1 os then P else 1):=by
  intro l
  induction l with
  | nil=>rfl
  | cons t l ih =>
   rw[List.map_cons,List.map_cons,List.map_cons,prodN,prodN,prodN,ih]
   have e:(if t.2.1 < P+1∧i < cq t.1 os then t.2.1 else 1)=(if t.2.1 < P∧i < cq t.1 os then t.2.1 else 1)*(if t.2.1=P∧i < cq t.1 os then P else 1):=by
    by_cases h:i < cq t.1 os
    ·
     by_cases h1:t.2.1 < P
     ·
      rw[if_pos ⟨by omega,h⟩,if_pos ⟨h1,h⟩,if_neg (by omega),Nat.mul_one]
     ·
      by_cases h2:t.2.1=P
      ·
       rw[if_pos ⟨by omega,h⟩,if_neg (by omega),if_pos ⟨h2,h⟩,Nat.one_mul,h2]
      ·
       rw[if_neg (by omega),if_neg (by omega),if_neg (by omega)]
    ·
     rw[if_neg (by omega),if_neg (by omega),if_neg (by omega)]
   rw[e]
   simp only[Nat.mul_assoc,Nat.mul_comm,Nat.mul_left_comm]
 exact this qs
theorem Zf1 {f g:Nat×Nat×Nat→Nat}:∀l:List (Nat×Nat×Nat),(∀t,f t≤g t)→prodN (l.map f)≤prodN (l.map g)
 | [],_=>Nat.le_refl _
 | t :: l,h=>Nat.mul_le_mul (h t) (Zf1 l h)
theorem ZhC {f g:Nat×Nat×Nat→Nat}:∀l:List (Nat×Nat×Nat),(∀t,f t∣g t)→prodN (l.map f)∣prodN (l.map g)
 | [],_=>Nat.dvd_refl _
 | t :: l,h=>Nat.mul_dvd_mul (h t) (ZhC l h)
theorem ZiV (os:List Int) (P i:Nat):0 < ent os P i∧ent os P i≤27720:=by
 constructor
 ·
  refine ZfA _ fun x hx => ?_
  obtain⟨t,ht,rfl⟩:=List.mem_map.1 hx
  have:=qs_bd t ht
  split <;> omega
 ·
  have h:=Zf1 (f:=fun t=>if t.2.1 < P∧i < cq t.1 os then t.2.1 else 1) (g:=fun t=>if t.2.1=0 then 1 else t.2.1) qs fun t=>by split <;> split <;> omega
  exact h
theorem Zli {os:List Int} {p:Nat} (hp:p∈prm5) {r:List Int} (h:Pws os p os.length r) (i:Nat):rd1 r i=((evp os p i:Nat):Int):=by
 have hc:∀t∈qs,t.2.1=p→cq t.1 r=cq t.1 os:=fun t ht e=>by rw[h.cnt t ht e,List.take_length]
 have hd:r.Pairwise fun x y=>y∣x:=List.Pairwise.imp_of_mem (fun {a b} ha hb hab=>by
  obtain⟨n,n0,n12,_,rfl⟩:=h.ent a ha
  obtain⟨k,k0,k12,_,rfl⟩:=h.ent b hb
  exact Int.natCast_dvd_natCast.2 (Zno hp k0 k12 n0 n12 (by omega))) h.srt
 unfold rd1
 by_cases hi:i < r.length
 ·
  rw[if_pos hi]
  obtain⟨n,n0,n12,n1,e⟩:=h.ent _ (ZcD (i:=(i:Int)) (by omega) (by omega))
  have b:=Zlf hp n0 n12
  rw[e]
  congr 1
  rw[←b.2.2.2]
  show prodN (qs.map fun t=>if t.2.1=p∧(ppt p n)%t.1=0 then p else 1)=prodN (qs.map fun t=>if t.2.1=p∧i < cq t.1 os then p else 1)
  congr 1
  refine List.map_congr_left fun t ht => ?_
  by_cases hp' : t.2.1=p
  ·
   have k:=Zkz (q:=t.1) hd i hi
   rw[hc t ht hp', e]at k
   by_cases k2:i < cq t.1 os
   ·
    rw[if_pos ⟨hp', by have:=k.2 k2;omega⟩,if_pos ⟨hp', k2⟩]
   ·
    rw[if_neg (fun hh=>k2 (k.1 (by have:=hh.2;omega))),if_neg fun hh=>k2 hh.2]
  ·
   rw[if_neg fun hh=>hp' hh.1,if_neg fun hh=>hp' hh.1]
 ·
  rw[if_neg hi]
  have:evp os p i=prodN (qs.map fun _=>1):=by
   unfold evp
   congr 1
   refine List.map_congr_left fun t ht=>if_neg fun hh => ?_
   have:=cq_le t.1 r
   rw[hc t ht hh.1]at this
   omega
  rw[this]
  rfl
structure Out (os:List Int) (P:Nat) (o:List Int):Prop where
 val:∀i:Nat,rd1 o i=((ent os P i:Nat):Int)
 up:∀t∈qs,t.2.1 < P→cq t.1 os≤o.length
 dn:∀i:Nat,i < o.length→∃t∈qs,t.2.1 < P∧i < cq t.1 os
 len:o.length≤os.length
theorem ZmI {o:List Int} {x:Int} {i:Nat} (h:i < o.length):rd (o++[x]) (i:Int)=rd o (i:Int):=by
 rw[Zbi (by rw[List.length_append];omega),Zbi h,List.getElem_append_left h]
theorem Zip (o:List Int) (x:Int):rd (o++[x]) (o.length:Int)=x:=by
 rw[Zbi (by simp),List.getElem_append_right (Nat.le_refl _)];simp
theorem Zg3 {os o r:List Int} {p:Nat} (hol:o.length≤1000) (hrl:r.length≤1000) (p12:p≤12) (ho:∀i:Nat,0≤rd1 o i∧rd1 o i≤27720) (hr:∀i:Nat,0≤rd1 r i∧rd1 r i≤27720) :
  ∃o', Zh.l4 os (p:Int) 0 o r=Zh.l0 os ((p+1:Nat):Int) o' ∧ o'.length=max o.length r.length∧∀i:Nat,rd1 o' i=rd1 o i*rd1 r i:=by
 have key:∀(c i:Nat) (o1:List Int),i+c=r.length→o1.length=max o.length i→(∀j:Nat,rd1 o1 j=rd1 o j*if j < i then rd1 r j else 1)→∃o', Zh.l4 os (p:Int) (i:Int) o1 r=Zh.l0 os ((p+1:Nat):Int) o' ∧ o'.length=max o.length r.length∧∀i:Nat,rd1 o' i=rd1 o i*rd1 r i:=by
  intro c
  induction c with
  | zero =>
   intro i o1 hi hl hv
   have:i=r.length:=by omega
   subst this
   refine⟨o1,?_,hl,fun j => ?_⟩
   ·
    rw[Zh.l4_eq,wn (j:=p) (by omega)]
    ((with_reducible repeat (first|refine Zl (by first|assumption|omega|rfl|exact B_pos (by omega)) ?_|refine Zk (by first|assumption|omega|decide|exact B_not (by omega)) ?_|refine Ze (by first|assumption) ?_|dsimp only));first|done|(with_reducible rfl)|simp (disch:=omega) only[w64]|(show False;done))
   ·
    rw[hv j]
    by_cases h:j < r.length
    ·
     rw[if_pos h]
    ·
     rw[if_neg h];unfold rd1;rw[if_neg (show ¬ j < r.length from h)]
  | succ c ih =>
   intro i o1 hi hl hv
   have hir:i < r.length:=by omega
   have vr:rd r (i:Int)=rd1 r i:=by unfold rd1;rw[if_pos hir]
   obtain⟨r0,r1⟩:=hr i
   obtain⟨o0,o1'⟩:=ho i
   have hvi:=hv i
   rw[if_neg (Nat.lt_irrefl i),Int.mul_one]at hvi
   have pb:0≤rd1 o i*rd1 r i∧rd1 o i*rd1 r i≤27720*27720:=by
    constructor
    ·
     exact Int.mul_nonneg o0 r0
    ·
     exact Int.mul_le_mul o1' r1 r0 (by omega)
   have w:wrapI (rd1 o i*rd1 r i)=rd1 o i*rd1 r i:=w64 (by omega) (by omega)
   by_cases he:i=o1.length
   ·
    have lone:([1]:List Int).length=1:=rfl
    have hla:(o1++[1]).length=i+1:=by rw[List.length_append,lone,←he]
    have hre:rd (o1++[1]) (i:Int)=rd1 o i:=by rw[←hvi,he,Zip];unfold rd1;rw[if_neg (Nat.lt_irrefl _)]
    have hset:(o1++[1]).set i (rd1 o i*rd1 r i)=o1++[rd1 o i*rd1 r i]:=by
     rw[List.set_append_right _ _ (by omega),he,Nat.sub_self,List.set_cons_zero]
    obtain ⟨o', k1,k2⟩:=ih (i+1) (o1++[rd1 o i*rd1 r i]) (by omega) (by rw[List.length_append,List.length_singleton];omega) (fun j=>by
     by_cases hj:j < i
     ·
      have h1:rd1 (o1++[rd1 o i*rd1 r i]) j=rd1 o1 j:=by
       show(if j < (o1++[rd1 o i*rd1 r i]).length then rd (o1++[rd1 o i*rd1 r i]) (j:Int)else 1)=if j < o1.length then rd o1 (j:Int)else 1
       rw[if_pos (show j < (o1++[rd1 o i*rd1 r i]).length by rw[List.length_append];omega),if_pos (show j < o1.length by omega),ZmI (by omega)]
      rw[h1,hv j,if_pos hj,if_pos (by omega)]
     ·
      by_cases hj2:j=i
      ·
       subst hj2
       rw[if_pos (by omega)]
       show(if j < (o1++[rd1 o j*rd1 r j]).length then rd (o1++[rd1 o j*rd1 r j]) (j:Int)else 1)=_
       rw[if_pos (by rw[List.length_append,List.length_singleton];omega)]
       conv=>lhs;rw[he]
       rw[Zip,←he]
      ·
       rw[if_neg (by omega),Int.mul_one]
       have h2:=hv j
       rw[if_neg hj,Int.mul_one]at h2
       rw[←h2]
       unfold rd1
       rw[if_neg (by rw[List.length_append,List.length_singleton];omega),if_neg (by omega)])
    refine⟨o', ?_,k2⟩
    have he' : (i:Int)=(o1.length:Int):=by omega
    rw[←k1,Zh.l4_eq,hre,vr,w,wn (j:=i) (by omega),Int.toNat_natCast,hset]
    ((with_reducible repeat (first|refine Zl (by first|assumption|omega|rfl|exact B_pos (by omega)) ?_|refine Zk (by first|assumption|omega|decide|exact B_not (by omega)) ?_|refine Ze (by first|assumption) ?_|dsimp only));first|done|(with_reducible rfl)|simp (disch:=omega) only[w64]|(show False;done))
   ·
    have hio:i < o1.length:=by omega
    have hre:rd o1 (i:Int)=rd1 o i:=by rw[←hvi];unfold rd1;rw[if_pos hio]
    obtain ⟨o', k1,k2⟩:=ih (i+1) (o1.set i (rd1 o i*rd1 r i)) (by omega) (by rw[List.length_set];omega) (fun j=>by
     by_cases hj:j=i
     ·
      subst hj
      rw[if_pos (by omega)]
      unfold rd1
      rw[if_pos (by rw[List.length_set];exact hio),Zbd hio]
     ·
      have h1:rd1 (o1.set i (rd1 o i*rd1 r i)) j=rd1 o1 j:=by unfold rd1;rw[List.length_set,Zbk hj]
      rw[h1,hv j]
      by_cases h:j < i
      ·
       rw[if_pos h,if_pos (by omega)]
      ·
       rw[if_neg h,if_neg (by omega)])
    refine⟨o', ?_,k2⟩
    have he' : ¬ (i:Int)=(o1.length:Int):=by omega
    rw[←k1,Zh.l4_eq,hre,vr,w,wn (j:=i) (by omega),Int.toNat_natCast]
    ((with_reducible repeat (first|refine Zl (by first|assumption|omega|rfl|exact B_pos (by omega)) ?_|refine Zk (by first|assumption|omega|decide|exact B_not (by omega)) ?_|refine Ze (by first|assumption) ?_|dsimp only));first|done|(with_reducible rfl)|simp (disch:=omega) only[w64]|(show False;done))
 exact key r.length 0 o (by omega) (by omega) fun j=>by rw[if_neg (Nat.not_lt_zero _),Int.mul_one]
theorem Zkn (o:List Int) (hl:o.length≤1000):Zh.l2 0 (wrapI ((o.length:Int) - 1)) o=some o.reverse:=by
 have key:∀(c i:Nat) (l:List Int),o.length≤2*i+1+c→2*i≤o.length+1→l.length=o.length→(∀j:Nat,j < o.length→rd l (j:Int)=if j < i∨o.length≤j+i then rd o ((o.length - 1 - j:Nat):Int)else rd o (j:Int))→Zh.l2 (i:Int) ((o.length:Int) - 1 - (i:Int)) l=some o.reverse:=by
  intro c
  induction c with
  | zero =>
   intro i l hc hi hll hv
   have hne:¬ (i:Int) < (o.length:Int) - 1 - (i:Int):=by omega
   rw[Zh.l2_eq,if_neg hne]
   congr 1
   refine Zfg (by rw[List.length_reverse,hll]) fun z z0 z1 => ?_
   obtain⟨j,rfl⟩:=Int.eq_ofNat_of_zero_le z0
   have hj:j < o.length:=by omega
   have hr:rd o.reverse (j:Int)=rd o ((o.length - 1 - j:Nat):Int):=by rw[Zbi (by rw[List.length_reverse];exact hj),Zbi (by omega),List.getElem_reverse]
   rw[hv j hj,hr]
   split
   ·
    rfl
   ·
    congr 1;omega
  | succ c ih =>
   intro i l hc hi hll hv
   by_cases hlt:(i:Int) < (o.length:Int) - 1 - (i:Int)
   ·
    obtain⟨k,hk⟩:∃k:Nat,k=o.length - 1 - i:=⟨_,rfl⟩
    have hkI:(o.length:Int) - 1 - (i:Int)=(k:Int):=by omega
    have hik:i≠k:=by omega
    have w:wrapI ((k:Int) - 1)=(o.length:Int) - 1 - ((i+1:Nat):Int):=by rw[w64 (by omega) (by omega)];omega
    have vi:=hv i (by omega)
    have vk:=hv k (by omega)
    rw[if_neg (by omega)]at vi vk
    have:=ih (i+1) ((l.set k (rd l (i:Int))).set i (rd l (k:Int))) (by omega) (by omega) (by rw[List.length_set,List.length_set];exact hll) (fun j hj=>by
     by_cases ji:j=i
     ·
      subst ji
      rw[Zbd (by rw[List.length_set];omega),vk,if_pos (by omega),hk]
     ·
      rw[Zbk ji]
      by_cases jk:j=k
      ·
       subst jk
       rw[Zbd (by omega),vi,if_pos (by omega)]
       congr 1;omega
      ·
       rw[Zbk jk,hv j hj]
       by_cases h:j < i∨o.length≤j+i
       ·
        rw[if_pos h,if_pos (by omega)]
       ·
        rw[if_neg h,if_neg (by omega)])
    rw[Zh.l2_eq,hkI,w,wn (j:=i) (by omega),Int.toNat_natCast,Int.toNat_natCast,this]
    have hl1:(l.set k (rd l (i:Int))).length=o.length:=by rw[List.length_set];exact hll
    ((with_reducible repeat (first|refine Zl (by first|assumption|omega|rfl|exact B_pos (by omega)) ?_|refine Zk (by first|assumption|omega|decide|exact B_not (by omega)) ?_|refine Ze (by first|assumption) ?_|dsimp only));first|done|(with_reducible rfl)|simp (disch:=omega) only[w64]|(show False;done))
   ·
    exact ih i l (by omega) hi hll hv
 have e:wrapI ((o.length:Int) - 1)=(o.length:Int) - 1 - ((0:Nat):Int):=by rw[w64 (by omega) (by omega)];omega
 rw[e]
 exact key o.length 0 o (by omega) (by omega) rfl fun j hj=>by rw[if_neg (by omega)]
def bl:List Bool:=[true,false]
theorem ZeF (b:Bool):b∈bl:=by cases b <;> decide
def fb (a b c d e f g h:Bool):Nat:=prodN [if a then 2 else 1,if b then 2 else 1,if c then 2 else 1,if d then 3 else 1,if e then 3 else 1,if f then 5 else 1,if g then 7 else 1,if h then 11 else 1]
theorem ZnN:(bl.all fun a=>bl.all fun b=>bl.all fun c=>bl.all fun d=>bl.all fun e=>bl.all fun f=>bl.all fun g=>bl.all fun h=>b && !a || c && !b || e && !d || (
  (decide (fb a b c d e f g h%2=0) == a) && (decide (fb a b c d e f g h%4=0) == b) && (decide (fb a b c d e f g h%8=0) == c) && (decide (fb a b c d e f g h%3=0) == d) && (decide (fb a b c d e f g h%9=0) == e) && (decide (fb a b c d e f g h%5=0) == f) && (decide (fb a b c d e f g h%7=0) == g) && (decide (fb a b c d e f g h%11=0) == h) &&
  ((List.range 13).all fun m=>decide (m=0) || (a && !decide (m%2=0)) || (b && !decide (m%4=0)) || (c && !decide (m%8=0)) || (d && !decide (m%3=0)) || (e && !decide (m%9=0)) || (f && !decide (m%5=0)) || (g && !decide (m%7=0)) || (h && !decide (m%11=0)) || decide (m%fb a b c d e f g h=0))))=true:=by decide +kernel
theorem ZnM (os:List Int) (i:Nat):ent os 13 i=fb (decide (i < cq 2 os)) (decide (i < cq 4 os)) (decide (i < cq 8 os)) (decide (i < cq 3 os)) (decide (i < cq 9 os)) (decide (i < cq 5 os)) (decide (i < cq 7 os)) (decide (i < cq 11 os)):=by
 simp[ent,fb,qs,prodN]
theorem ZhX {a b:Nat} (h:∀z:Int,z%(a:Int)=0→z%(b:Int)=0) (os:List Int):cq a os≤cq b os:=List.countP_mono_left fun x _ hx=>by simpa using h x (by simpa using hx)
theorem Zhb {m:Int} (m2:2≤m) (m12:m≤12) {os:List Int} (hos:∀n∈os,0 < n∧n∣m) (i:Nat):(∀t∈qs,ent os 13 i%t.1=0↔i < cq t.1 os)∧((ent os 13 i:Nat):Int)∣m:=by
 have some_dvd:∀q:Nat,i < cq q os→m%(q:Int)=0:=fun q h=>by
  have:∃x∈os,decide (x%(q:Int)=0)=true:=List.countP_pos_iff.1 (show 0 < os.countP _ by unfold cq at h;omega)
  obtain⟨x,hx,k⟩:=this
  exact Zeo (hos x hx).2 (of_decide_eq_true k)
 have h:=List.all_eq_true.1 (List.all_eq_true.1 (List.all_eq_true.1 (List.all_eq_true.1 (List.all_eq_true.1 (List.all_eq_true.1 (List.all_eq_true.1 (List.all_eq_true.1 ZnN (decide (i < cq 2 os)) (ZeF _)) (decide (i < cq 4 os)) (ZeF _)) (decide (i < cq 8 os)) (ZeF _)) (decide (i < cq 3 os)) (ZeF _)) (decide (i < cq 9 os)) (ZeF _)) (decide (i < cq 5 os)) (ZeF _)) (decide (i < cq 7 os)) (ZeF _)) (decide (i < cq 11 os)) (ZeF _)
 rw[←ZnM]at h
 have m1:=ZhX (a:=4) (b:=2) (fun z hz=>by omega) os
 have m2' := ZhX (a:=8) (b:=4) (fun z hz=>by omega) os
 have m3:=ZhX (a:=9) (b:=3) (fun z hz=>by omega) os
 obtain⟨M,rfl⟩:=Int.eq_ofNat_of_zero_le (show 0≤m by omega)
 simp only[Bool.or_eq_true,Bool.and_eq_true,Bool.not_eq_true', decide_eq_true_eq,decide_eq_false_iff_not,beq_iff_eq,decide_eq_decide]at h
 rcases h with ((⟨h1,h2⟩|⟨h1,h2⟩)|⟨h1,h2⟩)|h
 ·
  omega
 ·
  omega
 ·
  omega
 ·
  obtain⟨⟨⟨⟨⟨⟨⟨⟨h2,h4⟩,h8⟩,h3⟩,h9⟩,h5⟩,h7⟩,h11⟩,hm⟩:=h
  refine⟨fun t ht => ?_,?_⟩
  ·
   simp only[qs,List.mem_cons,List.not_mem_nil,or_false]at ht
   rcases ht with rfl|rfl|rfl|rfl|rfl|rfl|rfl|rfl
   ·
    exact h2
   ·
    exact h4
   ·
    exact h8
   ·
    exact h3
   ·
    exact h9
   ·
    exact h5
   ·
    exact h7
   ·
    exact h11
  ·
   have hm:=all13 hm (show M≤12 by omega)
   have s:=fun q hq=>some_dvd q hq
   have s2:=some_dvd 2;have s4:=some_dvd 4;have s8:=some_dvd 8;have s3:=some_dvd 3;have s9:=some_dvd 9;have s5:=some_dvd 5;have s7:=some_dvd 7;have s11:=some_dvd 11
   simp only[Bool.or_eq_true,Bool.and_eq_true,Bool.not_eq_true', decide_eq_true_eq,decide_eq_false_iff_not]at hm
   refine Int.natCast_dvd_natCast.2 (Nat.dvd_of_mod_eq_zero ?_)
   rcases hm with ((((((((hm|⟨g,k⟩)|⟨g,k⟩)|⟨g,k⟩)|⟨g,k⟩)|⟨g,k⟩)|⟨g,k⟩)|⟨g,k⟩)|⟨g,k⟩)|hm
   ·
    omega
   ·
    have:=s2 g;omega
   ·
    have:=s4 g;omega
   ·
    have:=s8 g;omega
   ·
    have:=s3 g;omega
   ·
    have:=s9 g;omega
   ·
    have:=s5 g;omega
   ·
    have:=s7 g;omega
   ·
    have:=s11 g;omega
   ·
    exact hm
theorem ZnF {m:Int} (m2:2≤m) (m12:m≤12) {os:List Int} (hos:∀n∈os,0 < n∧n∣m) (hl:os.length≤1000):∃L,Zh.f os=some L∧Chn m L∧(∀t∈qs,cq t.1 L=cq t.1 os)∧L.length≤os.length:=by
 have ho12:∀n∈os,0 < n∧n≤12:=fun n hn=>⟨(hos n hn).1,by have:=Int.le_of_dvd (by omega) (hos n hn).2;omega⟩
 have key:∀(c P:Nat) (o:List Int),P+c=13→2≤P→Out os P o→∃o', Zh.l0 os (P:Int) o=Zh.l0 os 13 o' ∧ Out os 13 o' := by
  intro c
  induction c with
  | zero =>
   intro P o hP _ hO
   have:P=13:=by omega
   subst this
   exact⟨o,rfl,hO⟩
  | succ c ih =>
   intro P o hP P2 hO
   have ol:=hO.len
   have hv:∀i:Nat,0≤rd1 o i∧rd1 o i≤27720:=fun i=>by rw[hO.val i];have:=ZiV os P i;omega
   have goal:∃o', Zh.l0 os (P:Int) o=Zh.l0 os ((P+1:Nat):Int) o' ∧ Out os (P+1) o' := by
    have hs:Zh.l0 os (P:Int) o=Zh.l1 os (P:Int) 0 o []:=by
     rw[Zh.l0_eq];((with_reducible repeat (first|refine Zl (by first|assumption|omega|rfl|exact B_pos (by omega)) ?_|refine Zk (by first|assumption|omega|decide|exact B_not (by omega)) ?_|refine Ze (by first|assumption) ?_|dsimp only));first|done|(with_reducible rfl)|simp (disch:=omega) only[w64]|(show False;done))
    by_cases hp:P∈prm5
    ·
     obtain⟨r,k1,k2⟩:=ZhU ho12 hl hp (r0:=o)
     have rl:=k2.len
     have ev_bd:∀i,evp os P i≤27720:=fun i=>by
      have h1:=Zgj os P i
      have h2:=ZiV os (P+1) i
      have h3:=ZiV os P i
      have:1*evp os P i≤ent os P i*evp os P i:=Nat.mul_le_mul_right _ (by omega)
      omega
     obtain⟨o', g1,g2,g3⟩:=Zg3 (os:=os) (o:=o) (r:=r) (p:=P) (by omega) (by omega) (by omega) hv (fun i=>by rw[Zli hp k2 i];have:=ev_bd i;omega)
     refine⟨o', by rw[hs,k1,g1],fun i=>by rw[g3 i,hO.val i,Zli hp k2 i,Zgj,Int.natCast_mul],fun t ht h => ?_,fun i hi => ?_,by omega⟩
     ·
      rcases Nat.lt_or_ge t.2.1 P with h' | h'
      ·
       have:=hO.up t ht h';omega
      ·
       have e:t.2.1=P:=by omega
       have:=cq_le t.1 r
       rw[k2.cnt t ht e,List.take_length]at this
       omega
     ·
      by_cases h:i < o.length
      ·
       obtain⟨t,ht,a,b⟩:=hO.dn i h
       exact⟨t,ht,by omega,b⟩
      ·
       have hir:i < r.length:=by omega
       have pp:(P,P,1)∈qs:=by
        rcases prm5_mem hp with h|h|h|h|h <;> rw[h] <;> decide
       refine⟨(P,P,1),pp,Nat.lt_succ_self P,?_⟩
       have e:=k2.cnt _ pp rfl
       rw[List.take_length]at e
       show i < cq P os
       rw[show cq P os=cq P r from e.symm,ZiP fun x hx => ?_]
       ·
        exact hir
       ·
        obtain⟨n,n0,n12,n1,rfl⟩:=k2.ent x hx
        have:=((Zlf hp n0 n12).1.1 n1)
        have:=(Zin hp n0 n12 pp rfl).2 this
        have this:ppt P n%P=0:=this
        omega
    ·
     obtain⟨o', g1,g2,g3⟩:=Zg3 (os:=os) (o:=o) (r:=[]) (p:=P) (by omega) (by simp) (by omega) hv (fun i=>by unfold rd1;rw[if_neg (by simp)];omega)
     have noq:∀t∈qs,t.2.1≠P:=fun t ht e=>hp (by
      simp only[qs,List.mem_cons,List.not_mem_nil,or_false]at ht
      rcases ht with rfl|rfl|rfl|rfl|rfl|rfl|rfl|rfl <;> (rw[←e];decide))
     have ev1:∀i,evp os P i=1:=fun i=>by
      have:evp os P i=prodN (qs.map fun _=>1):=by
       unfold evp
       congr 1
       exact List.map_congr_left fun t ht=>if_neg fun h=>noq t ht h.1
      rw[this];rfl
     refine⟨o', by rw[hs,ZhT ho12 hl P2 (by omega) hp,g1],fun i=>by rw[g3 i,hO.val i,Zgj,ev1 i,Nat.mul_one];unfold rd1;rw[if_neg (by simp),Int.mul_one],fun t ht h => ?_,fun i hi => ?_,by rw[g2,List.length_nil];omega⟩
     ·
      have:=hO.up t ht (by have:=noq t ht;omega)
      omega
     ·
      obtain⟨t,ht,a,b⟩:=hO.dn i (by rw[g2,List.length_nil]at hi;omega)
      exact⟨t,ht,by omega,b⟩
   obtain⟨o1,g1,g2⟩:=goal
   obtain⟨o', g3,g4⟩:=ih (P+1) o1 (by omega) (by omega) g2
   exact⟨o', by rw[g1,g3],g4⟩
 obtain⟨o,k1,k2⟩:=key 11 2 [] (by omega) (Nat.le_refl _) ⟨fun i=>by
  unfold rd1
  rw[if_neg (by simp)]
  have:ent os 2 i=prodN (qs.map fun _=>1):=by
   unfold ent
   congr 1
   all_goals exact List.map_congr_left fun t ht=>if_neg fun h=>by have:=qs_bd t ht;omega
  exact congrArg Int.ofNat this.symm,fun t ht h=>(by have:=qs_bd t ht;omega),fun i hi=>(by simp at hi),by simp⟩
 have k1:Zh.l0 os 2 []=Zh.l0 os 13 o:=k1
 have ol:=k2.len
 have val:∀i:Nat,i < o.length→rd o (i:Int)=((ent os 13 i:Nat):Int):=fun i hi=>by
  have:=k2.val i
  unfold rd1 at this
  rwa[if_pos hi]at this
 have cnt:∀t∈qs,cq t.1 o=cq t.1 os:=fun t ht=>Zkx (k2.up t ht (by
  simp only[qs,List.mem_cons,List.not_mem_nil,or_false]at ht
  rcases ht with rfl|rfl|rfl|rfl|rfl|rfl|rfl|rfl <;> decide)) fun i hi=>by
  rw[val i hi,←(Zhb m2 m12 hos i).1 t ht]
  omega
 refine⟨o.reverse,?_,⟨fun x hx => ?_,?_⟩,fun t ht => ?_,by rw[List.length_reverse];exact ol⟩
 ·
  rw[Zh.f_eq,k1,Zh.l0_eq,if_neg (by decide)]
  exact Zkn o (by omega)
 ·
  obtain⟨i,i0,i1⟩:∃i:Nat,i < o.length∧x=rd o (i:Int):=by
   obtain⟨n,hn,e⟩:=List.mem_iff_getElem.1 (List.mem_reverse.1 hx)
   exact⟨n,hn,by rw[Zbi hn,e]⟩
  obtain⟨t,ht,a,b⟩:=k2.dn i i0
  obtain⟨f1,f2⟩:=Zhb m2 m12 hos i
  have hd:=(f1 t ht).2 b
  have e0:=(ZiV os 13 i).1
  have hq:=qs_bd t ht
  rw[i1,val i i0]
  refine⟨?_,f2⟩
  have:=Nat.le_of_dvd e0 (Nat.dvd_of_mod_eq_zero hd)
  omega
 ·
  rw[List.pairwise_reverse]
  refine List.pairwise_iff_getElem.2 fun i j hi hj hij => ?_
  rw[←Zbi hi,←Zbi hj,val i hi,val j hj]
  refine Int.natCast_dvd_natCast.2 (ZhC qs fun t => ?_)
  by_cases h:t.2.1 < 13∧j < cq t.1 os
  ·
   rw[if_pos h,if_pos ⟨h.1,by omega⟩];exact Nat.dvd_refl _
  ·
   rw[if_neg h];exact Nat.one_dvd _
 ·
  rw[cq,List.countP_reverse];exact cnt t ht
end Go.Proofs.YtdamfbighdkcbaaGreat.V
namespace Go.Proofs.YtdamfbighdkcbaaGreat.V
open Go.RowKit Go.Proofs.YtdamfbighdkcbaaGreat.D
def sgn:Nat→Int
 | 0 => -1
 | j+1=>0 - sgn j
def sumJ (g:List (List Int)) (A:List Int→Int) (xs:List Int):Nat→Int
 | 0=>0
 | j+1=>sumJ g A xs j+sgn j*A (join2 g xs j)
def BdS (g:List (List Int)) (u:List Int) (A:List Int→Int) (xs:List Int) (d:Nat):Int:=rd u (rd xs 0)*A (xs.drop 1)+sumJ g A xs d+sgn d*A (xs.take d)
theorem Bd_eq (g:List (List Int)) (u v xs:List Int) (d:Nat):Bd g u v xs d=BdS g u (At g v) xs d:=by
 have h:∀j,bsum g u v xs j=(rd u (rd xs 0)*At g v (xs.drop 1)+sumJ g (At g v) xs j,sgn j):=by
  intro j
  induction j with
  | zero=>simp[bsum,sumJ,sgn]
  | succ j ih=>simp only[bsum,ih,sumJ,sgn,Int.add_assoc]
 unfold Bd BdS
 rw[h d]
theorem Zmq (g:List (List Int)) (A A' : List Int→Int) (c:Int) (xs:List Int):∀d,sumJ g (fun l=>A l+c*A' l) xs d=sumJ g A xs d+c*sumJ g A' xs d:=by
 intro d
 induction d with
 | zero=>simp[sumJ]
 | succ d ih =>
  simp only[sumJ,ih,Int.mul_add]
  rw[←Int.mul_assoc (sgn d) c,Int.mul_comm (sgn d) c,Int.mul_assoc]
  omega
theorem ZmP (g:List (List Int)) (u:List Int) (A A' : List Int→Int) (c:Int) (xs:List Int) (d:Nat):BdS g u (fun l=>A l+c*A' l) xs d=BdS g u A xs d+c*BdS g u A' xs d:=by
 unfold BdS
 rw[Zmq]
 simp only[Int.mul_add]
 rw[←Int.mul_assoc (sgn d) c,Int.mul_comm (sgn d) c,Int.mul_assoc,←Int.mul_assoc (rd u (rd xs 0)) c,Int.mul_comm (rd u (rd xs 0)) c,Int.mul_assoc]
 omega
noncomputable def AtF (g:List (List Int)) (h:Vc) (xs:List Int):Int:=ite_ (ZbH xs) (h (idx g xs).toNat) 0
theorem At_F (g:List (List Int)) (v:List Int):At g v=AtF g (V v):=by
 funext xs
 unfold At AtF
 by_cases h:ZbH xs
 ·
  rw[Zcb h,Zcb h];show v.getD (idx g xs).toNat 0=v.getD ((((idx g xs).toNat:Nat):Int)).toNat 0;rw[Int.toNat_natCast]
 ·
  rw[Zca h,Zca h]
theorem ZmN (g:List (List Int)) (h h' : Vc) (c:Int):AtF g (fun i=>h i+c*h' i)=fun l=>AtF g h l+c*AtF g h' l:=by
 funext xs
 unfold AtF
 by_cases k:ZbH xs
 ·
  simp only[Zcb k]
 ·
  simp only[Zca k];omega
theorem ZlF (g:List (List Int)):AtF g (fun _=>0)=fun _=>0:=by
 funext xs
 unfold AtF
 by_cases k:ZbH xs
 ·
  rw[Zcb k]
 ·
  rw[Zca k]
theorem Zlw (g:List (List Int)) (xs:List Int):∀d,sumJ g (fun _=>0) xs d=0:=by
 intro d
 induction d with
 | zero=>rfl
 | succ d ih=>simp[sumJ,ih]
theorem ZlG (g:List (List Int)) (u xs:List Int) (d:Nat):BdS g u (fun _=>0) xs d=0:=by unfold BdS;rw[Zlw];simp
theorem ZnO {g:List (List Int)} (hg:Grp g) {e:Nat} (he:e≤3) {xs:List Int} (hx:AllIn g.length xs) (hl:xs.length=e) (h:ZbH xs):0≤idx g xs∧(idx g xs).toNat < nB g e:=by
 obtain⟨a,b⟩:=Zd0 hg (Zjp hg (m:=2) (by omega) he 0) hx (by omega) h
 rw[Zci]at b
 have:((cells g (e:Int)).toNat:Int)=((nB g e:Nat):Int):=rfl
 omega
theorem Ze5 {g:List (List Int)} (hg:Grp g) {m:Int} {e:Nat} (he:e≤3) {h h' : Vc} (hh:∀i,i < nB g e→m∣h i - h' i) {xs:List Int} (hx:AllIn g.length xs) (hl:xs.length=e):m∣AtF g h xs - AtF g h' xs:=by
 unfold AtF
 by_cases k:ZbH xs
 ·
  rw[Zcb k,Zcb k]
  exact hh _ (ZnO hg he hx hl k).2
 ·
  rw[Zca k,Zca k]
  exact⟨0,by omega⟩
theorem ZcU {m a b c:Int} (h:m∣a - b):m∣c*a - c*b:=by
 rw[←Int.mul_sub];exact Int.dvd_mul_of_dvd_right h
theorem ZcT {m a b c d:Int} (h:m∣a - b) (h' : m∣c - d):m∣(a+c) - (b+d):=by
 have:=Int.dvd_add h h'
 rwa[show a - b+(c - d)=a+c - (b+d)by omega]at this
theorem ZgS {g:List (List Int)} (hg:Grp g) {m:Int} {u:List Int} {e:Nat} (he:e≤3) {h h' : Vc} (hh:∀i,i < nB g e→m∣h i - h' i) {xs:List Int} (hx:AllIn g.length xs) (hl:xs.length=e+1):m∣BdS g u (AtF g h) xs e - BdS g u (AtF g h') xs e:=by
 unfold BdS
 refine ZcT (ZcT (ZcU (Ze5 hg he hh (hx.drop 1) (by rw[List.length_drop];omega))) ?_) (ZcU (Ze5 hg he hh (hx.take e) (by rw[List.length_take];omega)))
 have:∀d,d≤e→m∣sumJ g (AtF g h) xs d - sumJ g (AtF g h') xs d:=by
  intro d
  induction d with
  | zero=>intro _;exact⟨0,by simp[sumJ]⟩
  | succ d ih =>
   intro hd
   obtain⟨k1,k2⟩:=ZeY hg hx (j:=d) (by omega)
   exact ZcT (ih (by omega)) (ZcU (Ze5 hg he hh k1 (by omega)))
 exact this e (Nat.le_refl _)
def Bnd (g:List (List Int)) (m:Int) (u:List Int) (e:Nat) (z:Vc):Prop:=∀i,i < nB g (e+1)→m∣z i - BdS g u (AtF g fun k=>z (nB g (e+1)+k)) (lst ((g.length:Int) - 1) (e+1) (i:Int)) e
theorem ZmF {g:List (List Int)} (hg:Grp g) {e i:Nat} (he:e≤3) (hi:i < nB g (e+1)):AllIn g.length (lst ((g.length:Int) - 1) (e+1) (i:Int))∧ZbH (lst ((g.length:Int) - 1) (e+1) (i:Int)):=by
 obtain⟨c1,c2⟩:=nA_bd hg (e:=e+1) (by omega)
 exact Zgo hg (n:=e+1) (by omega)
theorem ZiA {g:List (List Int)} (hg:Grp g) {m:Int} (m2:2≤m) {u:List Int} {e:Nat} (he:e≤3) {z:Vc} (hz:allM g m u e z):Bnd g m u e z:=by
 have hs:Sub m (nB g (e+1)+nB g e) (Bnd g m u e):=by
  refine⟨fun i hi => ?_,fun x y hx hy c i hi => ?_,fun x y hx h i hi => ?_⟩
  ·
   rw[ZlF,ZlG];exact⟨0,by dsimp only;omega⟩
  ·
   have e1:=ZmN g (fun k=>x (nB g (e+1)+k)) (fun k=>y (nB g (e+1)+k)) c
   rw[e1,ZmP]
   exact ZcT (hx i hi) (ZcU (hy i hi))
  ·
   have h1:=hx i hi
   have h2:=h i (by omega)
   have h3:=ZgS hg (u:=u) he (h:=fun k=>x (nB g (e+1)+k)) (h' := fun k=>y (nB g (e+1)+k)) (m:=m) (fun k hk=>h _ (by omega)) (ZmF hg he hi).1 (ZcK ..)
   have:=Int.dvd_add (Int.dvd_sub h1 h2) h3
   rwa[show ∀a b c d:Int,a - b - (a - c)+(b - d)=c - d from fun a b c d=>by omega]at this
 refine hs.all (fun w hw => ?_) hz
 obtain⟨k,hk,rfl⟩:=hw
 intro i hi
 have bl:(bdU g m u e k).length=nB g (e+1):=Zb1 ..
 have e1:(fun j=>V (bdA g m u e k) (nB g (e+1)+j))=V (unitC (cells g (e:Int)).toNat k):=by
  funext j
  show rd (bdU g m u e k++unitC (nB g e) k) ((nB g (e+1)+j:Nat):Int)=rd (unitC (nB g e) k) (j:Int)
  rw[ZbL (by omega),bl,show nB g (e+1)+j - nB g (e+1)=j by omega]
 have e2:V (bdA g m u e k) i=bdV g u (unitC (cells g (e:Int)).toNat k) e i%m:=by
  show rd (bdU g m u e k++unitC (nB g e) k) (i:Int)=_
  rw[ZbK (by omega),Zbi (by omega)]
  simp only[bdU,bdL,List.getElem_map,List.getElem_range]
 rw[e1,e2,←At_F,←Bd_eq]
 exact⟨-(bdV g u (unitC (cells g (e:Int)).toNat k) e i / m),by
  have:=Int.mul_ediv_add_emod (bdV g u (unitC (cells g (e:Int)).toNat k) e i) m
  rw[Int.mul_neg]
  show bdV g u (unitC (cells g (e:Int)).toNat k) e i%m - bdV g u (unitC (cells g (e:Int)).toNat k) e i=_
  omega⟩
noncomputable def sumA (g:List (List Int)) (m:Int) (u:List Int) (e:Nat) (y:Vc):Nat→Vc
 | 0=>fun _=>0
 | k+1=>fun i=>sumA g m u e y k i+y k*V (bdA g m u e k) i
theorem Zmp {g:List (List Int)} {m:Int} {u:List Int} {e:Nat} (y:Vc):∀k,k≤nB g e→allM g m u e (sumA g m u e y k):=by
 intro k
 induction k with
 | zero=>exact fun _ => .nil
 | succ k ih=>exact fun hk => .add _ (ih (by omega)) ⟨k,by omega,rfl⟩
theorem Zjo {c k j:Nat} (hk:k < c):rd (unitC c k) (j:Int)=if j=k then 1 else 0:=by
 unfold unitC
 by_cases e:j=k
 ·
  subst e;rw[if_pos rfl,Zbd (by simpa using hk)]
 ·
  rw[if_neg e,Zbk e,ZbD]
theorem Zlv {g:List (List Int)} {m:Int} {u:List Int} {e:Nat} (y:Vc) (j:Nat):∀k,k≤nB g e→sumA g m u e y k (nB g (e+1)+j)=if j < k then y j else 0:=by
 intro k
 induction k with
 | zero=>intro _;simp[sumA]
 | succ k ih =>
  intro hk
  have bl:(bdU g m u e k).length=nB g (e+1):=Zb1 ..
  have e1:V (bdA g m u e k) (nB g (e+1)+j)=if j=k then 1 else 0:=by
   show rd (bdU g m u e k++unitC (nB g e) k) ((nB g (e+1)+j:Nat):Int)=_
   rw[ZbL (by omega),bl,show nB g (e+1)+j - nB g (e+1)=j by omega,Zjo (by omega)]
  show sumA g m u e y k (nB g (e+1)+j)+y k*V (bdA g m u e k) (nB g (e+1)+j)=_
  rw[ih (by omega),e1]
  by_cases h1:j < k
  ·
   rw[if_pos h1,if_neg (by omega),if_pos (by omega)];omega
  ·
   by_cases h2:j=k
   ·
    subst h2;rw[if_neg h1,if_pos rfl,if_pos (by omega)];omega
   ·
    rw[if_neg h1,if_neg h2,if_neg (by omega)];omega
theorem ZlM {g:List (List Int)} (hg:Grp g) {m:Int} (m2:2≤m) {u:List Int} {e:Nat} (he:e≤3) {z:Vc} (hz:Bnd g m u e z):allM g m u e z:=by
 have h1:=Zmp (g:=g) (m:=m) (u:=u) (e:=e) (fun k=>z (nB g (e+1)+k)) (nB g e) (Nat.le_refl _)
 have h2:=ZiA hg m2 he h1
 have ht:∀j,j < nB g e→sumA g m u e (fun k=>z (nB g (e+1)+k)) (nB g e) (nB g (e+1)+j)=z (nB g (e+1)+j):=fun j hj=>by
  rw[Zlv _ _ _ (Nat.le_refl _),if_pos hj]
 refine .alike h1 fun i hi => ?_
 by_cases k:i < nB g (e+1)
 ·
  have a:=h2 i k
  have b:=hz i k
  have c:=ZgS hg (u:=u) (m:=m) he (h:=fun k=>sumA g m u e (fun k=>z (nB g (e+1)+k)) (nB g e) (nB g (e+1)+k)) (h' := fun k=>z (nB g (e+1)+k)) (fun j hj=>Zaw (ht j hj)) (ZmF hg he k).1 (ZcK ..)
  have:=Int.dvd_sub (Int.dvd_add a c) b
  rwa[show ∀a b c d:Int,a - b+(b - c) - (d - c)=a - d from fun a b c d=>by omega]at this
 ·
  obtain⟨j,rfl⟩:∃j,i=nB g (e+1)+j:=⟨i - nB g (e+1),by omega⟩
  exact Zaw (ht j (by omega))
theorem ZlI {g:List (List Int)} (hg:Grp g) {m:Int} (m2:2≤m) {u:List Int} {e:Nat} (he:e≤3) {w y:List Int} (hw:w.length=nB g (e+1)):allM g m u e (V (w++y))↔∀i,i < nB g (e+1)→m∣rd w (i:Int) - bdV g u y e i:=by
 have e1:(fun k=>V (w++y) (nB g (e+1)+k))=V y:=by
  funext k
  show rd (w++y) ((nB g (e+1)+k:Nat):Int)=rd y (k:Int)
  rw[ZbL (by omega),hw,show nB g (e+1)+k - nB g (e+1)=k by omega]
 have e2:Bnd g m u e (V (w++y))↔∀i,i < nB g (e+1)→m∣rd w (i:Int) - bdV g u y e i:=by
  unfold Bnd
  rw[e1]
  constructor
  ·
   intro h i hi
   have:=h i hi
   rw[←At_F,←Bd_eq]at this
   rwa[show V (w++y) i=rd w (i:Int)from ZbK (by omega)]at this
  ·
   intro h i hi
   rw[←At_F,←Bd_eq,show V (w++y) i=rd w (i:Int)from ZbK (by omega)]
   exact h i hi
 exact⟨fun h=>e2.1 (ZiA hg m2 he h),fun h=>ZlM hg m2 he (e2.2 h)⟩
end Go.Proofs.YtdamfbighdkcbaaGreat.V
namespace Go.Proofs.YtdamfbighdkcbaaGreat.V
open Go.RowKit Go.Proofs.YtdamfbighdkcbaaGreat.D Go.Proofs.YtdamfbighdkcbaaGreat.P
theorem Znz {xs:List Int} {n:Nat} (h:xs.length=n+1):∃ys x,xs=ys++[x]∧ys.length=n:=by
 have hne:xs≠[]:=fun e=>by rw[e]at h;simp at h
 refine⟨xs.dropLast,xs.getLast hne,(List.dropLast_concat_getLast hne).symm,by rw[List.length_dropLast];omega⟩
theorem Znf {g:List (List Int)}:∀(n:Nat) (xs:List Int),xs.length=n→(∀x∈xs,1≤x∧x < g.length)→lst ((g.length:Int) - 1) n (idx g xs)=xs:=by
 intro n
 induction n with
 | zero=>intro xs hl _;rw[List.eq_nil_of_length_eq_zero hl];rfl
 | succ n ih =>
  intro xs hl hx
  obtain⟨ys,x,rfl,hy⟩:=Znz hl
  obtain⟨x0,x1⟩:=hx x (by simp)
  rw[Zi0,lst]
  have e1:(idx g ys*((g.length:Int) - 1)+x - 1) / ((g.length:Int) - 1)=idx g ys:=by
   rw[show idx g ys*((g.length:Int) - 1)+x - 1=(x - 1)+idx g ys*((g.length:Int) - 1)by omega,Int.add_mul_ediv_right _ _ (by omega),Int.ediv_eq_zero_of_lt (by omega) (by omega)]
   omega
  have e2:(idx g ys*((g.length:Int) - 1)+x - 1)%((g.length:Int) - 1)=x - 1:=by
   rw[show idx g ys*((g.length:Int) - 1)+x - 1=(x - 1)+idx g ys*((g.length:Int) - 1)by omega,Int.add_mul_emod_self_right,Int.emod_eq_of_lt (by omega) (by omega)]
  rw[e1,e2,ih ys hy fun z hz=>hx z (by simp[hz]),show x - 1+1=x by omega]
theorem ZnD {g:List (List Int)} {C:Nat} {G:Nat→Int} {xs:List Int} (h:ZbH xs) (hi:(idx g xs).toNat < C):At g ((List.range C).map G) xs=G (idx g xs).toNat:=by
 unfold At
 rw[Zcb h]
 show((List.range C).map G).getD (idx g xs).toNat 0=_
 simp[List.getD_eq_getElem?_getD,List.getElem?_map,List.getElem?_range hi]
def ConP (g:List (List Int)) (m:Int) (u v r:List Int) (n:Nat):Prop:=∀x:Int,0≤x→x < n→∀y:Int,0≤y→y < n→T g x y < n→(rd r x+rd u x*rd r y+At g v [x,y])%m=rd r (T g x y)
theorem ConP.pre {g:List (List Int)} {m:Int} {u v r r' : List Int} {n n' : Nat} (h:ConP g m u v r n) (hn:n' ≤ n) (hg:Grp g) (hN:n≤g.length) (he:∀i:Int,0≤i→i < n' → rd r' i=rd r i):ConP g m u v r' n' := by
 intro x x0 x1 y y0 y1 ht
 have e:=h x x0 (by omega) y y0 (by omega) (by omega)
 obtain⟨t0,_⟩:=hg.ent x y x0 (by omega) y0 (by omega)
 rw[he x x0 x1,he y y0 y1,he _ t0 ht]
 exact e
end Go.Proofs.YtdamfbighdkcbaaGreat.V
namespace Go.Proofs.YtdamfbighdkcbaaGreat.V
open Go.RowKit Go.Proofs.YtdamfbighdkcbaaGreat.D Go.Proofs.YtdamfbighdkcbaaGreat.P
def cg (m a b:Int):Prop:=m∣a - b
theorem Zfc (m a:Int):cg m a a:=⟨0,by simp⟩
theorem cg.symm {m a b:Int} (h:cg m a b):cg m b a:=by obtain⟨x,hx⟩:=h;exact⟨-x,by rw[Int.mul_neg];omega⟩
theorem cg.trans {m a b c:Int} (h:cg m a b) (k:cg m b c):cg m a c:=by obtain⟨x,hx⟩:=h;obtain⟨y,hy⟩:=k;exact⟨x+y,by rw[Int.mul_add];omega⟩
theorem ZiF {m a b c d:Int} (h:cg m a b) (k:cg m c d):cg m (a+c) (b+d):=by obtain⟨x,hx⟩:=h;obtain⟨y,hy⟩:=k;exact⟨x+y,by rw[Int.mul_add];omega⟩
theorem Zg1 {m a b c d:Int} (h:cg m a b) (k:cg m c d):cg m (a - c) (b - d):=by obtain⟨x,hx⟩:=h;obtain⟨y,hy⟩:=k;exact⟨x - y,by rw[Int.mul_sub];omega⟩
theorem ZiH {m a b c d:Int} (h:cg m a b) (k:cg m c d):cg m (a*c) (b*d):=by
 obtain⟨x,hx⟩:=h;obtain⟨y,hy⟩:=k
 exact⟨x*c+b*y,by grind⟩
theorem ZiG (m a:Int):cg m (a%m) a:=cg.symm Int.dvd_self_sub_emod
theorem Zem {m a b:Int} (h:a=b):cg m a b:=by rw[h];exact Zfc _ _
noncomputable def tl (g:List (List Int)) (d:Nat) (F:List Int→Int):List Int:=(List.range (cells g (d:Int)).toNat).map fun i:Nat=>F (lst ((g.length:Int) - 1) d (i:Int))
theorem At_tl {g:List (List Int)} (hg:Grp g) {d:Nat} (hd:d≤4) (F:List Int→Int) {xs:List Int} (hx:AllIn g.length xs) (hl:xs.length=d):At g (tl g d F) xs=ite_ (ZbH xs) (F xs) 0:=by
 by_cases h:ZbH xs
 rotate_left
 ·
  unfold At;rw[Zca h,Zca h]
 have hi:0≤idx g xs∧(idx g xs).toNat < nB g d:=by
  have hb:=ZkU hg hx xs.length (Nat.le_refl _) (fun j j0 j1=>h j j0 (by omega))
  rw[List.take_length,hl]at hb
  refine⟨hb.1,?_⟩
  obtain⟨b1,b2⟩:=nA_bd hg (e:=d) hd
  have:cells g (d:Int)=((g.length:Int) - 1) ^ d:=rfl
  omega
 have e:=ZnD (g:=g) (C:=(cells g (d:Int)).toNat) (G:=fun i:Nat=>F (lst ((g.length:Int) - 1) d (i:Int))) h hi.2
 unfold tl
 rw[e,Int.toNat_of_nonneg hi.1,Zcb h,Znf d xs hl fun x hx' => by
  obtain⟨j,hj,e⟩:=List.mem_iff_getElem.1 hx'
  obtain⟨a0,a1⟩:=hx.mem hx'
  have:=h (j:Int) (by omega) (by omega)
  rw[Zbi hj,e]at this
  omega]
theorem ZmO {g:List (List Int)} {v xs:List Int} (h:¬ ZbH xs):At g v xs=0:=by unfold At;exact Zca h _ _
theorem Zj5 {g:List (List Int)} (hg:Grp g) {m:Int} {u v xs:List Int} {d:Nat} (hd:d≤3) (hx:AllIn g.length xs) (hl:xs.length=d+1) (hn:ZbH xs):At g (bdL g m u v d) xs=Bd g u v xs d%m:=by
 have e:bdL g m u v d=tl g (d+1) (fun ys=>Bd g u v ys d%m):=rfl
 rw[e,At_tl hg (by omega) _ hx hl,Zcb hn]
end Go.Proofs.YtdamfbighdkcbaaGreat.V
set_option maxHeartbeats 8000000
namespace Go.Proofs.YtdamfbighdkcbaaGreat.V
open Go.RowKit Go.Proofs.YtdamfbighdkcbaaGreat.D Go.Proofs.YtdamfbighdkcbaaGreat.P
theorem bdZ {g:List (List Int)} {u v:List Int} {x:Int}:Bd g u v [x] 0=rd u x*At g v [] - At g v []:=by
 have e0:rd [x] 0=x:=rfl
 simp only[Bd,bsum,List.drop_succ_cons,List.drop_zero,List.take_zero,e0]
 omega
theorem bdT {g:List (List Int)} {u v:List Int} {x y z:Int}:Bd g u v [x,y,z] 2=rd u x*At g v [y,z] - At g v [T g x y,z]+At g v [x,T g y z] - At g v [x,y]:=by
 simp only[Bd,bsum,join2,List.take_zero,List.nil_append,List.drop_succ_cons,List.drop_zero,List.take_succ_cons]
 have e0:rd [x,y,z] 0=x:=rfl
 have e1:rd [x,y,z] ((0+1:Nat):Int)=y:=rfl
 have e2:rd [x,y,z] ((0:Nat):Int)=x:=rfl
 have e3:rd [x,y,z] ((1+1:Nat):Int)=z:=rfl
 have e4:rd [x,y,z] ((1:Nat):Int)=y:=rfl
 simp only[e0,e1,e2,e3,e4,List.append_nil,List.singleton_append,List.cons_append,List.nil_append]
 omega
end Go.Proofs.YtdamfbighdkcbaaGreat.V
namespace Go.Proofs.YtdamfbighdkcbaaGreat.V
open Go.RowKit Go.Proofs.YtdamfbighdkcbaaGreat.D Go.Proofs.YtdamfbighdkcbaaGreat.P
theorem bdO {g:List (List Int)} {u v:List Int} {x y:Int}:Bd g u v [x,y] 1=rd u x*At g v [y] - At g v [T g x y]+At g v [x]:=by
 simp only[Bd,bsum,join2,List.take_zero,List.nil_append,List.drop_succ_cons,List.drop_zero,List.take_succ_cons]
 have e0:rd [x,y] 0=x:=rfl
 have e1:rd [x,y] ((0+1:Nat):Int)=y:=rfl
 have e2:rd [x,y] ((0:Nat):Int)=x:=rfl
 simp only[e0,e1,e2,List.append_nil]
 omega
theorem bdQ {g:List (List Int)} {u v:List Int} {x y z w:Int}:Bd g u v [x,y,z,w] 3=rd u x*At g v [y,z,w] - At g v [T g x y,z,w]+At g v [x,T g y z,w] - At g v [x,y,T g z w]+At g v [x,y,z]:=by
 simp only[Bd,bsum,join2,List.take_zero,List.nil_append,List.drop_succ_cons,List.drop_zero,List.take_succ_cons]
 have e0:rd [x,y,z,w] 0=x:=rfl
 have e1:rd [x,y,z,w] ((0+1:Nat):Int)=y:=rfl
 have e2:rd [x,y,z,w] ((0:Nat):Int)=x:=rfl
 have e3:rd [x,y,z,w] ((1+1:Nat):Int)=z:=rfl
 have e4:rd [x,y,z,w] ((1:Nat):Int)=y:=rfl
 have e5:rd [x,y,z,w] ((2+1:Nat):Int)=w:=rfl
 have e6:rd [x,y,z,w] ((2:Nat):Int)=z:=rfl
 simp only[e0,e1,e2,e3,e4,e5,e6,List.append_nil,List.singleton_append,List.cons_append,List.nil_append]
 omega
theorem Zh8 {x:Int}:ZbH [x]↔x≠0:=by
 constructor
 ·
  intro h;exact h 0 (by omega) (by simp)
 ·
  intro h j j0 j1
  have:j=0:=by simp at j1;omega
  subst this;exact h
theorem ZdP {x:Int} {xs:List Int}:ZbH (x :: xs)↔x≠0∧ZbH xs:=by
 constructor
 ·
  intro h
  refine⟨h 0 (by omega) (by rw[List.length_cons];omega),fun j j0 j1 => ?_⟩
  obtain⟨n,rfl⟩:=Int.eq_ofNat_of_zero_le j0
  have:=h ((n+1:Nat):Int) (by omega) (by rw[List.length_cons];omega)
  rwa[rd_cs]at this
 ·
  rintro⟨h1,h2⟩ j j0 j1
  obtain⟨n,rfl⟩:=Int.eq_ofNat_of_zero_le j0
  cases n with
  | zero=>rw[rd_c0];exact h1
  | succ n=>rw[rd_cs];exact h2 n (by omega) (by rw[List.length_cons]at j1;omega)
theorem At0 {g:List (List Int)} {v:List Int} {a b:List Int}:At g v (a++0 :: b)=0:=ZmO fun h=>by
 have:=h (a.length:Int) (by omega) (by rw[List.length_append,List.length_cons];omega)
 rw[Zbi (by rw[List.length_append,List.length_cons];omega),List.getElem_append_right (Nat.le_refl _)]at this
 simp at this
section
variable {g:List (List Int)} {m:Int} {u v:List Int}
theorem At_d0 (hg:Grp g) (hm:Mdl g m u) {x:Int} (x0:0≤x) (x1:x < g.length):cg m (At g (bdL g m u v 0) [x]) (rd u x*At g v [] - At g v []):=by
 by_cases h:x=0
 ·
  subst h
  rw[show At g (bdL g m u v 0) [0]=0 from At0 (a:=[]),hm.one hg]
  exact Zem (by omega)
 ·
  rw[Zj5 hg (d:=0) (by omega) (ZgU x0 x1) rfl (Zh8.2 h),bdZ]
  exact ZiG m _
theorem At_d1 (hg:Grp g) (hm:Mdl g m u) {x y:Int} (x0:0≤x) (x1:x < g.length) (y0:0≤y) (y1:y < g.length):cg m (At g (bdL g m u v 1) [x,y]) (rd u x*At g v [y] - At g v [T g x y]+At g v [x]):=by
 by_cases h:x=0
 ·
  subst h
  rw[show At g (bdL g m u v 1) [0,y]=0 from At0 (a:=[]),hm.one hg,hg.one y y0 y1,show At g v [0]=0 from At0 (a:=[])]
  exact Zem (by omega)
 ·
  by_cases k:y=0
  ·
   subst k
   rw[show At g (bdL g m u v 1) [x,0]=0 from At0 (a:=[x]),hg.one' x x0 x1,show At g v [0]=0 from At0 (a:=[])]
   exact Zem (by omega)
  ·
   rw[Zj5 hg (d:=1) (by omega) (ZgV x0 x1 y0 y1) rfl (ZdP.2 ⟨h,Zh8.2 k⟩),bdO]
   exact ZiG m _
theorem At_d2 (hg:Grp g) (hm:Mdl g m u) {x y z:Int} (x0:0≤x) (x1:x < g.length) (y0:0≤y) (y1:y < g.length) (z0:0≤z) (z1:z < g.length):cg m (At g (bdL g m u v 2) [x,y,z]) (rd u x*At g v [y,z] - At g v [T g x y,z]+At g v [x,T g y z] - At g v [x,y]):=by
 by_cases h:x=0
 ·
  subst h
  rw[show At g (bdL g m u v 2) [0,y,z]=0 from At0 (a:=[]),hm.one hg,hg.one y y0 y1,show At g v [0,T g y z]=0 from At0 (a:=[]),show At g v [0,y]=0 from At0 (a:=[])]
  exact Zem (by omega)
 ·
  by_cases k:y=0
  ·
   subst k
   rw[show At g (bdL g m u v 2) [x,0,z]=0 from At0 (a:=[x]),hg.one' x x0 x1,hg.one z z0 z1,show At g v [0,z]=0 from At0 (a:=[]),show At g v [x,0]=0 from At0 (a:=[x])]
   exact Zem (by omega)
  ·
   by_cases l:z=0
   ·
    subst l
    rw[show At g (bdL g m u v 2) [x,y,0]=0 from At0 (a:=[x,y]),hg.one' y y0 y1,show At g v [y,0]=0 from At0 (a:=[y]),show At g v [T g x y,0]=0 from At0 (a:=[T g x y])]
    exact Zem (by omega)
   ·
    rw[Zj5 hg (d:=2) (by omega) (ZhO x0 x1 y0 y1 z0 z1) rfl (ZdP.2 ⟨h,ZdP.2 ⟨k,Zh8.2 l⟩⟩),bdT]
    exact ZiG m _
theorem u_hom (hg:Grp g) (hm:Mdl g m u) {x y:Int} (x0:0≤x) (x1:x < g.length) (y0:0≤y) (y1:y < g.length) (a:Int):cg m (rd u (T g x y)*a) (rd u x*(rd u y*a)):=by
 have hl:=hm.len
 rw[hm.hom x x0 (by omega) y y0 (by omega),←Int.mul_assoc]
 exact ZiH (ZiG m _) (Zfc m a)
theorem dd0 (hg:Grp g) (hm:Mdl g m u) {x y:Int} (x0:0≤x) (x1:x < g.length) (y0:0≤y) (y1:y < g.length):cg m (Bd g u (bdL g m u v 0) [x,y] 1) 0:=by
 obtain⟨t0,t1⟩:=hg.ent x y x0 x1 y0 y1
 rw[bdO]
 have h1:=ZiH (Zfc m (rd u x)) (At_d0 hg hm (v:=v) y0 y1)
 have h2:=At_d0 hg hm (v:=v) t0 t1
 have h3:=At_d0 hg hm (v:=v) x0 x1
 have k:=u_hom hg hm x0 x1 y0 y1 (At g v [])
 have s:=ZiF (Zg1 h1 h2) h3
 refine s.trans ?_
 obtain⟨q,hq⟩:=k
 refine⟨-q,?_⟩
 rw[Int.mul_neg,←hq,Int.mul_sub]
 omega
theorem dd1 (hg:Grp g) (hm:Mdl g m u) {x y z:Int} (x0:0≤x) (x1:x < g.length) (y0:0≤y) (y1:y < g.length) (z0:0≤z) (z1:z < g.length):cg m (Bd g u (bdL g m u v 1) [x,y,z] 2) 0:=by
 obtain⟨t0,t1⟩:=hg.ent x y x0 x1 y0 y1
 obtain⟨s0,s1⟩:=hg.ent y z y0 y1 z0 z1
 rw[bdT]
 have h1:=ZiH (Zfc m (rd u x)) (At_d1 hg hm (v:=v) y0 y1 z0 z1)
 have h2:=At_d1 hg hm (v:=v) t0 t1 z0 z1
 have h3:=At_d1 hg hm (v:=v) x0 x1 s0 s1
 have h4:=At_d1 hg hm (v:=v) x0 x1 y0 y1
 have k:=u_hom hg hm x0 x1 y0 y1 (At g v [z])
 have s:=Zg1 (ZiF (Zg1 h1 h2) h3) h4
 refine s.trans ?_
 obtain⟨q,hq⟩:=k
 refine⟨-q,?_⟩
 rw[Int.mul_neg,←hq,Int.mul_add,Int.mul_sub,hg.assoc x y z x0 x1 y0 y1 z0 z1]
 omega
theorem dd2 (hg:Grp g) (hm:Mdl g m u) {x y z w:Int} (x0:0≤x) (x1:x < g.length) (y0:0≤y) (y1:y < g.length) (z0:0≤z) (z1:z < g.length) (w0:0≤w) (w1:w < g.length):cg m (Bd g u (bdL g m u v 2) [x,y,z,w] 3) 0:=by
 obtain⟨t0,t1⟩:=hg.ent x y x0 x1 y0 y1
 obtain⟨s0,s1⟩:=hg.ent y z y0 y1 z0 z1
 obtain⟨r0,r1⟩:=hg.ent z w z0 z1 w0 w1
 rw[bdQ]
 have h1:=ZiH (Zfc m (rd u x)) (At_d2 hg hm (v:=v) y0 y1 z0 z1 w0 w1)
 have h2:=At_d2 hg hm (v:=v) t0 t1 z0 z1 w0 w1
 have h3:=At_d2 hg hm (v:=v) x0 x1 s0 s1 w0 w1
 have h4:=At_d2 hg hm (v:=v) x0 x1 y0 y1 r0 r1
 have h5:=At_d2 hg hm (v:=v) x0 x1 y0 y1 z0 z1
 have k:=u_hom hg hm x0 x1 y0 y1 (At g v [z,w])
 have s:=ZiF (Zg1 (ZiF (Zg1 h1 h2) h3) h4) h5
 refine s.trans ?_
 obtain⟨q,hq⟩:=k
 refine⟨-q,?_⟩
 rw[Int.mul_neg,←hq,Int.mul_sub,Int.mul_add,Int.mul_sub,hg.assoc x y z x0 x1 y0 y1 z0 z1,hg.assoc y z w y0 y1 z0 z1 w0 w1]
 omega
theorem dd (hg:Grp g) (hm:Mdl g m u) {e:Nat} (he:e≤2) {xs:List Int} (hx:AllIn g.length xs) (hl:xs.length=e+2):cg m (Bd g u (bdL g m u v e) xs (e+1)) 0:=by
 have c:e=0∨e=1∨e=2:=by omega
 rcases c with rfl|rfl|rfl
 ·
  match xs,hl with
  | [x,y],_ =>
   have hx' := fun z hz=>hx.mem (x:=z) hz
   obtain⟨a0,a1⟩:=hx' x (by simp)
   obtain⟨b0,b1⟩:=hx' y (by simp)
   exact dd0 hg hm a0 a1 b0 b1
 ·
  match xs,hl with
  | [x,y,z],_ =>
   have hx' := fun z hz=>hx.mem (x:=z) hz
   obtain⟨a0,a1⟩:=hx' x (by simp)
   obtain⟨b0,b1⟩:=hx' y (by simp)
   obtain⟨c0,c1⟩:=hx' z (by simp)
   exact dd1 hg hm a0 a1 b0 b1 c0 c1
 ·
  match xs,hl with
  | [x,y,z,w],_ =>
   have hx' := fun z hz=>hx.mem (x:=z) hz
   obtain⟨a0,a1⟩:=hx' x (by simp)
   obtain⟨b0,b1⟩:=hx' y (by simp)
   obtain⟨c0,c1⟩:=hx' z (by simp)
   obtain⟨d0,d1⟩:=hx' w (by simp)
   exact dd2 hg hm a0 a1 b0 b1 c0 c1 d0 d1
theorem bd_co (hg:Grp g) (hm:Mdl g m u) {n:Nat} (hn:n≤3) {x:Vc} (hx:Sp m (nB g n) (bdG g m u n) x):coM g m u n x:=by
 have m2:=hm.m2
 have hs:Sub m (nB g n) (coM g m u n):=(Zg6 hg hm hn).choose_spec.2.sub
 refine hs.all (fun w hw => ?_) hx
 cases n with
 | zero=>exact hw.elim
 | succ e =>
  obtain⟨i,hi,rfl⟩:=hw
  have bl:(bdU g m u e i).length=nB g (e+1):=Zb1 ..
  have hz:coM g m u (e+1) (V (bdU g m u e i))↔allM g m u (e+1) (V (List.replicate (nB g (e+2)) 0++bdU g m u e i)):=by
   unfold coM allM
   rw[show pad (nB g (e+1+1)) (V (bdU g m u e i))=V (List.replicate (nB g (e+2)) 0++bdU g m u e i)from ?_]
   funext k
   unfold pad
   by_cases hk:k < nB g (e+2)
   ·
    rw[if_pos hk]
    show 0=rd (List.replicate (nB g (e+2)) 0++bdU g m u e i) (k:Int)
    rw[ZbK (by rw[List.length_replicate];exact hk),ZbD]
   ·
    rw[if_neg hk]
    show rd (bdU g m u e i) _=rd (List.replicate (nB g (e+2)) 0++bdU g m u e i) (k:Int)
    rw[ZbL (by rw[List.length_replicate];omega),List.length_replicate]
  rw[hz,ZlI hg m2 hn List.length_replicate]
  intro j hj
  rw[ZbD]
  have hgl:=Zgo hg (n:=e+1+1) (i:=j) (by
   obtain⟨c1,c2⟩:=nA_bd hg (e:=e+1+1) (by omega)
   omega)
  have:=dd hg hm (v:=unitC (cells g (e:Int)).toNat i) (e:=e) (by omega) hgl.1 (ZcK ..)
  obtain⟨q,hq⟩:=this
  refine⟨-q,?_⟩
  have e1:bdV g u (bdU g m u e i) (e+1) j=Bd g u (bdL g m u (unitC (cells g (e:Int)).toNat i) e) (lst ((g.length:Int) - 1) (e+1+1) (j:Int)) (e+1):=rfl
  rw[e1,Int.mul_neg]
  omega
end
end Go.Proofs.YtdamfbighdkcbaaGreat.V
