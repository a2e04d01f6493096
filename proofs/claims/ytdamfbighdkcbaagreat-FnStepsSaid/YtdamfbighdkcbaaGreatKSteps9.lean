/- What the proof of the law Steps stands on, part 9: words, each Go function's Lean function, and that the Go code comes to its answers; no condition. (Packed by wip/myprint/pack.py out of what the kit's printer wrote, its words among it, partly by our patches of it, and out of texts of this session.) -/
import Derived.Test.YtdamfbighdkcbaaGreatKSteps3
import Derived.Test.YtdamfbighdkcbaaGreatKSteps4
import Derived.Test.YtdamfbighdkcbaaGreatKSteps7
import Derived.Test.YtdamfbighdkcbaaGreatKSteps8
set_option linter.unusedVariables false
set_option linter.unusedSimpArgs false
set_option maxHeartbeats 4000000
set_option maxRecDepth 20000
namespace Go.Proofs.YtdamfbighdkcbaaGreat.V
open Go.RowKit Go.Proofs.YtdamfbighdkcbaaGreat.D
def chkG (g:List (List Int)):Bool:=
 decide (1<=g.length) && decide (g.length<=8) && (List.range g.length).all λ a=>decide ((row g (a:Int)).length=g.length) && decide (T g 0 (a:Int)=a) && decide (T g (a:Int) 0=a) && ((List.range g.length).any λ b=>decide (T g (a:Int) (b:Int)=0)) &&
  (List.range g.length).all λ b=>decide (0<=T g (a:Int) (b:Int)) && decide (T g (a:Int) (b:Int)<g.length) && (List.range g.length).all λ c=>decide (T g (T g (a:Int) (b:Int)) (c:Int)=T g (a:Int) (T g (b:Int) (c:Int)))
theorem Zdp {g:List (List Int)} (h:chkG g=true):Grp g:=by
 unfold chkG at h;simp only[Bool.and_eq_true,decide_eq_true_eq,List.all_eq_true,List.any_eq_true,List.mem_range]at h;obtain⟨⟨h1,h2⟩,h3⟩:=h;have to:∀{P:Int->Prop},(∀a:Nat,a<g.length->P (a:Int))->∀a:Int,0<=a->a<g.length->P a:=λ {P} H a a0 a1=>by have:=H a.toNat (by omega);rwa[Int.toNat_of_nonneg a0]at this
 refine⟨h1,h2,to λ a ha=>(h3 a ha).1.1.1.1,λ a b a0 a1 b0 b1=>?_,to λ a ha=>(h3 a ha).1.1.1.2,to λ a ha=>(h3 a ha).1.1.2,λ a b c a0 a1 b0 b1 c0 c1=>?_,to λ a ha=>?_⟩
 ·refine to (P:=λ a=>∀b:Int,0<=b->b<g.length->0<=T g a b/\T g a b<g.length) (λ a ha=>to λ b hb=>(((h3 a ha).2 b hb).1)) a a0 a1 b b0 b1
 ·refine to (P:=λ a=>∀b:Int,0<=b->b<g.length->∀c:Int,0<=c->c<g.length->T g (T g a b) c=T g a (T g b c)) (λ a ha=>to (P:=λ b=>∀c:Int,0<=c->c<g.length->T g (T g (a:Int) b) c=T g (a:Int) (T g b c)) λ b hb=>to λ c hc=>((h3 a ha).2 b hb).2 c hc) a a0 a1 b b0 b1 c c0 c1
 ·obtain⟨b,hb,e⟩:=(h3 a ha).1.2;exact⟨(b:Int),by omega,by omega,e⟩
def cyc (n:Nat):List (List Int):=(List.range n).map λ a:Nat=>(List.range n).map λ b:Nat=>((a:Int)+(b:Int))%(n:Int)
def prd (g h:List (List Int)):List (List Int):=(List.range (g.length*h.length)).map λ x:Nat=>(List.range (g.length*h.length)).map λ y:Nat=>(h.length:Int)*T g ((x:Int) / (h.length:Int)) ((y:Int) / (h.length:Int))+T h ((x:Int)%(h.length:Int)) ((y:Int)%(h.length:Int))
def twd (n:Nat) (more:Int):List (List Int):=(List.range (2*n)).map λ a:Nat=>(List.range (2*n)).map λ b:Nat=>(n:Int)*(((a:Int) / n+(b:Int) / n)%2)+((if(b:Int) / n=1 then(b:Int)%n-(a:Int)%n else(a:Int)%n+(b:Int)%n)+more*((a:Int) / n)*((b:Int) / n))%(n:Int)
theorem ZiR:∀n:Nat,n<=8->1<=n->chkG (cyc n)=true:=by decide +kernel
theorem ZlO:chkG (prd (cyc 2) (cyc 2))=true/\chkG (prd (cyc 2) (prd (cyc 2) (cyc 2)))=true/\chkG (prd (cyc 2) (cyc 4))=true/\chkG (twd 3 0)=true/\chkG (twd 4 0)=true/\chkG (twd 4 2)=true:=by decide +kernel
structure Ordr (n:Nat) (p:List Int):Prop where
 len:p.length=n
 ent:∀i:Nat,i<n->0<=rd p (i:Int)/\rd p (i:Int)<n
 inj:∀i j:Nat,i<n->j<n->rd p (i:Int)=rd p (j:Int)->i=j
theorem nd_le {α:Type} [DecidableEq α]:∀{l m:List α},l.Nodup->(∀x∈l,x∈m)->l.length<=m.length
 | [],m,_,_=>Nat.zero_le _
 | x :: l,m,hn,hs=>by
  rw[List.nodup_cons]at hn;have hx:=hs x List.mem_cons_self;have:=nd_le (l:=l) (m:=m.erase x) hn.2 λ y hy=>(List.mem_erase_of_ne (λ e=>hn.1 (by rw[<-e];exact hy))).2 (hs y (List.mem_cons_of_mem _ hy))
  rw[List.length_erase_of_mem hx]at this;have:=List.length_pos_of_mem hx;rw[List.length_cons];omega
theorem ZmW {n:Nat} {f:Nat->Nat} (hb:∀i,i<n->f i<n) (hi:∀i j,i<n->j<n->f i=f j->i=j):∀k,k<n->∃i,i<n/\f i=k:=by
 intro k hk
 apply Classical.byContradiction
 intro hno;have hnd:((List.range n).map f).Nodup:=by rw[List.Nodup,List.pairwise_map];exact List.Pairwise.imp_of_mem (λ {a b} ha hb h e=>h (hi a b (List.mem_range.1 ha) (List.mem_range.1 hb) e)) (List.nodup_range (n:=n))
 have:=nd_le (m:=(List.range n).erase k) hnd (λ x hx=>by obtain⟨i,hi', rfl⟩:=List.mem_map.1 hx;exact(List.mem_erase_of_ne (λ e=>hno ⟨i,List.mem_range.1 hi', e⟩)).2 (List.mem_range.2 (hb i (List.mem_range.1 hi'))))
 rw[List.length_erase_of_mem (List.mem_range.2 hk),List.length_map,List.length_range]at this;omega
theorem Ordr.onto {n:Nat} {p:List Int} (h:Ordr n p) {k:Int} (k0:0<=k) (k1:k<n):∃i:Nat,i<n/\rd p (i:Int)=k:=by
 obtain⟨i,hi,e⟩:=ZmW (n:=n) (f:=λ i=>(rd p (i:Int)).toNat) (λ i hi=>by have:=h.ent i hi;omega) (λ i j hi hj e=>h.inj i j hi hj (by have:=h.ent i hi;have:=h.ent j hj;omega)) k.toNat (by omega)
 exact⟨i,hi,by have:=h.ent i hi;omega⟩
theorem ZlJ {g g' : List (List Int)} (hg:Grp g) {p:List Int} (hp:Ordr g.length p) (h0:rd p 0=0) (hl:g'.length=g.length) (hr:∀a:Nat,a<g.length->(row g' (a:Int)).length=g.length) (hT:∀a b:Nat,a<g.length->b<g.length->T g' (rd p (a:Int)) (rd p (b:Int))=rd p (T g (a:Int) (b:Int))):Grp g':=by
 have n1:=hg.n1;have n8:=hg.n8
 have hTi:∀a b:Int,0<=a->a<g.length->0<=b->b<g.length->T g' (rd p a) (rd p b)=rd p (T g a b):=λ a b a0 a1 b0 b1=>by have:=hT a.toNat b.toNat (by omega) (by omega);rwa[Int.toNat_of_nonneg a0,Int.toNat_of_nonneg b0]at this
 have hon:∀k:Int,0<=k->k<g'.length->∃i:Int,(0<=i/\i<g.length)/\k=rd p i:=λ k k0 k1=>by obtain⟨i,hi,e⟩:=hp.onto k0 (by omega);exact⟨(i:Int),by omega,e.symm⟩
 have hen:∀i:Int,0<=i->i<g.length->0<=rd p i/\rd p i<g.length:=λ i i0 i1=>by have:=hp.ent i.toNat (by omega);rwa[Int.toNat_of_nonneg i0]at this
 refine⟨by omega,by omega,λ a a0 a1=>?_,λ a b a0 a1 b0 b1=>?_,λ a a0 a1=>?_,λ a a0 a1=>?_,λ a b c a0 a1 b0 b1 c0 c1=>?_,λ a a0 a1=>?_⟩
 ·have:=hr a.toNat (by omega);rw[Int.toNat_of_nonneg a0]at this;omega
 ·obtain⟨i,⟨i0,i1⟩,rfl⟩:=hon a a0 a1;obtain⟨j,⟨j0,j1⟩,rfl⟩:=hon b b0 b1;obtain⟨t0,t1⟩:=hg.ent i j i0 i1 j0 j1;rw[hTi i j i0 i1 j0 j1,hl];exact hen _ t0 t1
 ·obtain⟨i,⟨i0,i1⟩,rfl⟩:=hon a a0 a1;have:=hTi 0 i (by omega) (by omega) i0 i1;rw[h0,hg.one i i0 i1]at this;exact this
 ·obtain⟨i,⟨i0,i1⟩,rfl⟩:=hon a a0 a1;have:=hTi i 0 i0 i1 (by omega) (by omega);rw[h0,hg.one' i i0 i1]at this;exact this
 ·obtain⟨i,⟨i0,i1⟩,rfl⟩:=hon a a0 a1;obtain⟨j,⟨j0,j1⟩,rfl⟩:=hon b b0 b1;obtain⟨k,⟨k0,k1⟩,rfl⟩:=hon c c0 c1;obtain⟨s0,s1⟩:=hg.ent i j i0 i1 j0 j1;obtain⟨t0,t1⟩:=hg.ent j k j0 j1 k0 k1;rw[hTi i j i0 i1 j0 j1,hTi _ k s0 s1 k0 k1,hTi j k j0 j1 k0 k1,hTi i _ i0 i1 t0 t1,hg.assoc i j k i0 i1 j0 j1 k0 k1]
 ·obtain⟨i,⟨i0,i1⟩,rfl⟩:=hon a a0 a1;obtain⟨b,b0,b1,e⟩:=hg.inv i i0 i1;refine⟨rd p b,(hen b b0 b1).1,by rw[hl];exact(hen b b0 b1).2,?_⟩;rw[hTi i b i0 i1 b0 b1,e,h0]
theorem rd_c0 (x:Int) (w:List Int):rd (x :: w) ((0:Nat):Int)=x:=by rw[Zcu];rfl
theorem rd_cs (x:Int) (w:List Int) (i:Nat):rd (x :: w) ((i+1:Nat):Int)=rd w (i:Int):=by rw[Zcu,Zcu];rfl
theorem V_c0 (x:Int) (w:List Int):V (x :: w) 0=x:=rd_c0 x w
theorem V_cs (x:Int) (w:List Int) (i:Nat):V (x :: w) (i+1)=V w i:=rd_cs x w i
def boxl:List Nat->List (List Int)
 | []=>[[]]
 | d :: ds=>(List.range d).flatMap λ x:Nat=>(boxl ds).map λ v=>(x:Int) :: v
def prodN:List Nat->Nat
 | []=>1
 | d :: ds=>d*prodN ds
theorem Zfy:∀{ds:List Nat} {v:List Int},v∈boxl ds↔v.length=ds.length/\∀i:Nat,i<ds.length->0<=rd v (i:Int)/\rd v (i:Int)<((ds.getD i 0:Nat):Int)
 | [],v=>by rw[boxl,List.mem_singleton];exact⟨λ h=>by subst h;exact⟨rfl,λ i hi=>absurd hi (Nat.not_lt_zero _)⟩,λ h=>List.eq_nil_of_length_eq_zero h.1⟩
 | d :: ds,v=>by
  rw[boxl,List.mem_flatMap]
  constructor
  ·
   rintro⟨x,hx,hv⟩;obtain⟨w,hw,rfl⟩:=List.mem_map.1 hv;obtain⟨h1,h2⟩:=Zfy.1 hw;have hx:=List.mem_range.1 hx;refine⟨by rw[List.length_cons,List.length_cons,h1],λ i hi=>?_⟩
   cases i with
   | zero=>rw[rd_c0];exact⟨by omega,by show(x:Int)<((d:Nat):Int);omega⟩
   | succ i=>rw[rd_cs];exact h2 i (by rw[List.length_cons]at hi;omega)
  ·
   rintro⟨h1,h2⟩
   cases v with
   | nil=>rw[List.length_cons]at h1;exact absurd h1 (by simp)
   | cons y w =>
    rw[List.length_cons,List.length_cons]at h1;obtain⟨y0,y1⟩:=h2 0 (by rw[List.length_cons];omega);rw[rd_c0]at y0 y1;have y1:y<(d:Int):=y1;refine⟨y.toNat,List.mem_range.2 (by omega),List.mem_map.2 ⟨w,Zfy.2 ⟨by omega,λ i hi=>?_⟩,by rw[Int.toNat_of_nonneg y0]⟩⟩;have:=h2 (i+1) (by rw[List.length_cons];omega);rw[rd_cs]at this;exact this
theorem Zd4:∀ds:List Nat,(boxl ds).Nodup
 | []=>List.nodup_cons.2 ⟨λ h=>(by cases h),List.nodup_nil⟩
 | d :: ds=>by
  rw[boxl,List.Nodup,List.pairwise_flatMap];refine⟨λ x _=>?_,?_⟩
  ·rw[List.pairwise_map];exact List.Pairwise.imp (λ {a b} h e=>h (List.cons.inj e).2) (Zd4 ds)
  ·refine List.Pairwise.imp (λ {x y} h a ha b hb e=>?_) (List.nodup_range (n:=d));obtain⟨_,_,rfl⟩:=List.mem_map.1 ha;obtain⟨_,_,rfl⟩:=List.mem_map.1 hb;have:=(List.cons.inj e).1;omega
theorem Zhc {α β:Type} (F:α->List β) (n:Nat):∀l:List α,(∀x∈l,(F x).length=n)->(l.flatMap F).length=l.length*n
 | [],_=>by simp
 | x :: l,h=>by rw[List.flatMap_cons,List.length_append,Zhc F n l λ y hy=>h y (List.mem_cons_of_mem _ hy),h x List.mem_cons_self,List.length_cons,Nat.succ_mul];omega
theorem Zei:∀ds:List Nat,(boxl ds).length=prodN ds
 | []=>rfl
 | d :: ds=>by rw[boxl,Zhc _ (prodN ds) _ λ x _=>by rw[List.length_map,Zei ds],List.length_range];rfl
def vecs (m:Int) (W:Nat):List (List Int):=boxl (List.replicate W m.toNat)
theorem Zhe {m:Int} (m0:0<m) {W:Nat} {v:List Int}:v∈vecs m W↔v.length=W/\AllIn m v:=by
 rw[vecs,Zfy,List.length_replicate];refine and_congr_right λ hl=>?_
 have e:∀i:Nat,i<W->(((List.replicate W m.toNat).getD i 0:Nat):Int)=m:=λ i hi=>by rw[List.getD_eq_getElem?_getD,List.getElem?_replicate,if_pos hi,Option.getD_some];omega
 constructor
 ·intro h i i0 i1;obtain⟨n,rfl⟩:=Int.eq_ofNat_of_zero_le i0;have:=h n (by omega);rwa[e n (by omega)]at this
 ·intro h i hi;rw[e i hi];exact h i (by omega) (by omega)
noncomputable def ctl (m:Int) (W:Nat) (P:List Int->Prop):List (List Int):=(vecs m W).filter λ v=>B (P v)
noncomputable def ct (m:Int) (W:Nat) (M:Vc->Prop):Nat:=(ctl m W λ v=>M (V v)).length
theorem Zb5 {m:Int} (m0:0<m) {W:Nat} {P:List Int->Prop} {v:List Int}:v∈ctl m W P↔(v.length=W/\AllIn m v)/\P v:=by rw[ctl,List.mem_filter,Zhe m0,B_iff]
theorem ZcU (m:Int) (W:Nat) (P:List Int->Prop):(ctl m W P).Nodup:=(Zd4 _).filter _
theorem ZiH {α β γ:Type} [DecidableEq γ] {A:List α} {C:List β} {L:List γ} (hA:A.Nodup) (hC:C.Nodup) (hL:L.Nodup) (f:α->β->γ) (h1:∀a∈A,∀c∈C,f a c∈L)
  (h2:∀a∈A,∀c∈C,∀a' ∈ A,∀c' ∈ C,f a c=f a' c'->a=a' /\ c=c') (h3:∀v∈L,∃a∈A,∃c∈C,f a c=v):L.length=A.length*C.length:=by
 have hF:(A.flatMap λ a=>C.map λ c=>f a c).length=A.length*C.length:=Zhc _ _ _ λ a _=>List.length_map ..
 have hn:(A.flatMap λ a=>C.map λ c=>f a c).Nodup:=by
  rw[List.Nodup,List.pairwise_flatMap];refine⟨λ a ha=>?_,?_⟩
  ·rw[List.pairwise_map];exact List.Pairwise.imp_of_mem (λ {x y} hx hy h e=>h (h2 a ha x hx a ha y hy e).2) hC
  ·refine List.Pairwise.imp_of_mem (λ {a b} ha hb h x hx y hy e=>?_) hA;obtain⟨c,hc,rfl⟩:=List.mem_map.1 hx;obtain⟨c', hc', rfl⟩:=List.mem_map.1 hy;exact h (h2 a ha c hc b hb c' hc' e).1
 rw[<-hF]
 apply Nat.le_antisymm
 ·
  refine nd_le hL λ v hv=>?_
  obtain⟨a,ha,c,hc,e⟩:=h3 v hv;exact List.mem_flatMap.2 ⟨a,ha,List.mem_map.2 ⟨c,hc,e⟩⟩
 ·
  refine nd_le hn λ v hv=>?_
  obtain⟨a,ha,hv⟩:=List.mem_flatMap.1 hv;obtain⟨c,hc,rfl⟩:=List.mem_map.1 hv;exact h1 a ha c hc
theorem Zob {α γ:Type} [DecidableEq γ] {A:List α} {L:List γ} (hA:A.Nodup) (f:α->γ) (h1:∀a∈A,f a∈L) (h2:∀a∈A,∀b∈A,f a=f b->a=b):A.length<=L.length:=by
 have hn:(A.map f).Nodup:=by rw[List.Nodup,List.pairwise_map];exact List.Pairwise.imp_of_mem (λ {x y} hx hy h e=>h (h2 x hx y hy e)) hA
 have:=nd_le hn λ x hx=>by obtain⟨a,ha,rfl⟩:=List.mem_map.1 hx;exact h1 a ha
 rwa[List.length_map]at this
def nf (m:Int) (W:Nat) (x:Vc):List Int:=(List.range W).map λ i:Nat=>x i%m
theorem ZeJ (m:Int) (W:Nat) (x:Vc):(nf m W x).length=W:=by simp[nf]
theorem nf_rd {m:Int} {W:Nat} {x:Vc} {i:Nat} (h:i<W):rd (nf m W x) (i:Int)=x i%m:=by
 rw[rd_get (by rw[ZeJ];exact h)]
 simp[nf]
theorem nf_in {m:Int} (m0:0<m) (W:Nat) (x:Vc):AllIn m (nf m W x):=ZbO λ z hz=>by obtain⟨i,_,rfl⟩:=List.mem_map.1 hz;exact⟨Int.emod_nonneg _ (by omega),Int.emod_lt_of_pos _ m0⟩
theorem Zc0 {m:Int} {W:Nat} {x:Vc} {i:Nat} (h:i<W):m∣x i-V (nf m W x) i:=by rw[show V (nf m W x) i=x i%m from nf_rd h];exact Int.dvd_self_sub_emod
theorem ZbI {m a b:Int} (h:m∣a-b):m∣b-a:=by obtain⟨q,hq⟩:=h;exact⟨-q,by rw[Int.mul_neg];omega⟩
theorem dvd_trans' {m a b c:Int} (h:m∣a-b) (k:m∣b-c):m∣a-c:=by have:=Int.dvd_add h k;rwa[show a-b+(b-c)=a-c by omega]at this
theorem Sub.iff {m:Int} {W:Nat} {M:Vc->Prop} (hM:Sub m W M) {x y:Vc} (h:∀i,i<W->m∣x i-y i):M x↔M y:=⟨λ k=>hM.alike _ _ k h,λ k=>hM.alike _ _ k λ i hi=>ZbI (h i hi)⟩
theorem Zib {m:Int} (m0:0<m) {W:Nat} {M:Vc->Prop} (hM:Sub m W M) {x:Vc}:nf m W x∈ctl m W (λ v=>M (V v))↔M x:=by rw[Zb5 m0];exact⟨λ h=>(hM.iff λ i hi=>Zc0 hi).2 h.2,λ h=>⟨⟨ZeJ ..,nf_in m0 _ _⟩,(hM.iff λ i hi=>Zc0 hi).1 h⟩⟩
theorem Zgw {m a b:Int} (h:m∣a-b):a%m=b%m:=(Int.emod_eq_emod_iff_emod_sub_eq_zero).2 (Int.emod_eq_zero_of_dvd h)
theorem Zfb {m:Int} (m0:0<m) {W:Nat} {v w:List Int} (hv:v.length=W/\AllIn m v) (hw:w.length=W/\AllIn m w) (h:∀i,i<W->m∣V v i-V w i):v=w:=by
 refine ZgA (by omega) λ i i0 i1=>?_
 obtain⟨n,rfl⟩:=Int.eq_ofNat_of_zero_le i0;have e:=Zgw (h n (by omega));obtain⟨a0,a1⟩:=hv.2 n (by omega) (by omega);obtain⟨b0,b1⟩:=hw.2 n (by omega) (by omega);rwa[show V v n=rd v (n:Int)from rfl,show V w n=rd w (n:Int)from rfl,Int.emod_eq_of_lt a0 a1,Int.emod_eq_of_lt b0 b1]at e
theorem nf_eq {m:Int} {W:Nat} {x y:Vc} (h:nf m W x=nf m W y):∀i,i<W->m∣x i-y i:=λ i hi=>by have:=congrArg (λ l=>rd l (i:Int)) h;rw[nf_rd hi,nf_rd hi]at this;exact Int.dvd_of_emod_eq_zero ((Int.emod_eq_emod_iff_emod_sub_eq_zero).1 this)
theorem ZjJ {m:Int} {W:Nat} {M M' : Vc->Prop} (m0:0<m) (h:∀x,M x↔M' x):ct m W M=ct m W M':=by rw[show M=M' from funext λ x=>propext (h x)]
theorem Zkn (m:Int) (W:Nat):(vecs m W).length=m.toNat ^ W:=by
 rw[vecs,Zei]
 induction W with
 | zero=>rfl
 | succ W ih=>rw[List.replicate_succ,prodN,ih,Nat.pow_succ,Nat.mul_comm]
theorem ZoV {m:Int} (W:Nat):ct m W (λ _=>True)=m.toNat ^ W:=by
 rw[<-Zkn,ct,ctl]
 congr 1
 exact List.filter_eq_self.2 λ v _=>B_pos trivial
structure Aut (m:Int) (r:Nat) (T S:Vc->Vc):Prop where
 t1:∀x y c i,i<r->m∣T (λ i=>x i+c*y i) i-(T x i+c*T y i)
 s1:∀x y c i,i<r->m∣S (λ i=>x i+c*y i) i-(S x i+c*S y i)
 t2:∀x y,(∀i,i<r->m∣x i-y i)->∀i,i<r->m∣T x i-T y i
 s2:∀x y,(∀i,i<r->m∣x i-y i)->∀i,i<r->m∣S x i-S y i
 st:∀x i,i<r->m∣S (T x) i-x i
 ts:∀x i,i<r->m∣T (S x) i-x i
def ad (m:Int) (r:Nat) (d:Int) (M:Vc->Prop) (x:Vc):Prop:=∃l e:Vc,M l/\∀i,i<r->m∣l i+d*e i-x i
theorem Zjv {m:Int} {r:Nat} {d:Int} {M:Vc->Prop} (hM:Sub m r M):Sub m r (ad m r d M) where
 zero:=⟨_,λ _=>0,hM.zero,λ i _=>ZaG (by simp)⟩
 lin:=λ x y ⟨l,e,h1,h2⟩ ⟨l', e', h3,h4⟩ c=>⟨_,λ i=>e i+c*e' i,hM.lin _ _ h1 h3 c,λ i hi=>by
  have:=Int.dvd_add (h2 i hi) (Int.dvd_mul_of_dvd_right (b:=c) (h4 i hi));show m∣l i+c*l' i+d*(e i+c*e' i)-(x i+c*y i);rw[show l i+d*e i-x i+c*(l' i+d*e' i-y i)=l i+c*l' i+d*(e i+c*e' i)-(x i+c*y i)by rw[Int.mul_add d,Int.mul_sub,Int.mul_add,Int.mul_left_comm d c];omega]at this
  exact this⟩
 alike:=λ x y ⟨l,e,h1,h2⟩ h=>⟨l,e,h1,λ i hi=>dvd_trans' (h2 i hi) (h i hi)⟩
theorem Znt {m:Int} (m0:0<m) {r r' : Nat} {M M' : Vc->Prop} (hM:Sub m r M) (hM' : Sub m r' M') (T:Vc->Vc) (h:∀x,M x->M' (T x)) (inj:∀x y,M x->M y->(∀i,i<r'->m∣T x i-T y i)->∀i,i<r->m∣x i-y i):ct m r M<=ct m r' M':=by
 refine Zob (ZcU ..) (λ v=>nf m r' (T (V v))) (λ v hv=>(Zib m0 hM').2 (h _ ((Zb5 m0).1 hv).2)) λ v hv w hw e=>?_
 obtain⟨a1,a2⟩:=(Zb5 m0).1 hv;obtain⟨b1,b2⟩:=(Zb5 m0).1 hw;exact Zfb m0 a1 b1 (inj _ _ a2 b2 (nf_eq e))
theorem Aut.ct {m:Int} (m0:0<m) {r:Nat} {T S:Vc->Vc} (h:Aut m r T S) {M M' : Vc->Prop} (hM:Sub m r M) (hM' : Sub m r M') (h1:∀x,M x->M' (T x)) (h2:∀x,M' x->M (S x)) (d:Int):ct m r (ad m r d M)=ct m r (ad m r d M'):=by
 apply Nat.le_antisymm
 ·
  refine Znt m0 (Zjv hM) (Zjv hM') T (λ x ⟨l,e,k1,k2⟩=>⟨T l,T e,h1 l k1,λ i hi=>?_⟩) λ x y _ _ e i hi=>?_
  ·exact dvd_trans' (ZbI (h.t1 l e d i hi)) (h.t2 _ _ k2 i hi)
  ·exact dvd_trans' (dvd_trans' (ZbI (h.st x i hi)) (h.s2 _ _ e i hi)) (h.st y i hi)
 ·
  refine Znt m0 (Zjv hM') (Zjv hM) S (λ x ⟨l,e,k1,k2⟩=>⟨S l,S e,h2 l k1,λ i hi=>?_⟩) λ x y _ _ e i hi=>?_
  ·exact dvd_trans' (ZbI (h.s1 l e d i hi)) (h.s2 _ _ k2 i hi)
  ·exact dvd_trans' (dvd_trans' (ZbI (h.ts x i hi)) (h.t2 _ _ e i hi)) (h.ts y i hi)
theorem ZmK {m:Int} (m0:0<m) {r:Nat} {n d:Int} (hn:n∣m) (hd:d∣m) (n0:0<n) (d0:0<d) {M M' : Vc->Prop} (hM' : Sub m r M') (h:∀x,M x↔n∣x 0/\M' (λ i=>x (i+1))):ct m (r+1) (ad m (r+1) d M)=(m / ((Int.gcd n d:Nat):Int)).toNat*ct m r (ad m r d M'):=by
 obtain⟨g,hg⟩:∃g,g=((Int.gcd n d:Nat):Int):=⟨_,rfl⟩
 have g0:0<g:=by rw[hg];exact_mod_cast Int.gcd_pos_of_ne_zero_left d (by omega)
 have gn:g∣n:=by rw[hg];exact Int.gcd_dvd_left ..
 have gd:g∣d:=by rw[hg];exact Int.gcd_dvd_right ..
 have gm:g∣m:=Int.dvd_trans gn hn;obtain⟨q,hq⟩:=gm;have q0:0<q:=by
  rcases Int.lt_or_le 0 q with h|h
  ·exact h
  ·have:=Int.mul_le_mul_of_nonneg_left h (Int.le_of_lt g0);omega
 have hmq:m / g=q:=by rw[hq];exact Int.mul_ediv_cancel_left _ (by omega)
 rw[<-hg,hmq];have hr:q.toNat=(List.range q.toNat).length:=List.length_range.symm;rw[hr];refine ZiH (List.nodup_range) (ZcU ..) (ZcU ..) (λ(a:Nat) c=>(g*(a:Int)) :: c) (λ a ha c hc=>?_) (λ a ha c hc a' ha' c' hc' e=>?_) λ v hv=>?_
 ·
  have ha:=List.mem_range.1 ha;obtain⟨⟨c1,c2⟩,l,e,c3,c4⟩:=(Zb5 m0).1 hc;have b0:0<=g*(a:Int):=Int.mul_nonneg (by omega) (by omega);have b1:g*(a:Int)<m:=by rw[hq];exact Int.mul_lt_mul_of_pos_left (by omega) g0
  refine(Zb5 m0).2 ⟨⟨by rw[List.length_cons,c1],ZbO λ z hz=>?_⟩,?_⟩
  ·
   rcases List.mem_cons.1 hz with rfl|hz
   ·exact⟨b0,b1⟩
   ·exact c2.mem hz
  ·
   obtain⟨N,rfl⟩:=Int.eq_ofNat_of_zero_le (Int.le_of_lt n0);obtain⟨D', rfl⟩:=Int.eq_ofNat_of_zero_le (Int.le_of_lt d0);obtain⟨s,t,hst⟩:=bez N D';rw[show((Nat.gcd N D' : Nat):Int)=g from hg.symm]at hst;refine⟨λ i=>if i=0 then s*(N:Int)*a else l (i-1),λ i=>if i=0 then t*a else e (i-1),(h _).2 ⟨?_,?_⟩,λ i hi=>?_⟩
   ·exact⟨s*a,by show s*(N:Int)*a=N*(s*a);rw[Int.mul_comm s,Int.mul_assoc]⟩
   ·exact c3
   ·
    cases i with
    | zero =>
     refine ZaG ?_;show s*(N:Int)*a+(D' : Int)*(t*a)=V (g*(a:Int) :: c) 0;rw[V_c0,<-hst,Int.add_mul,Int.mul_left_comm (D' : Int),Int.mul_assoc t]
    | succ i =>
     have:=c4 i (by omega);rw[V_cs];exact this
 ·have h1:=(List.cons.inj e).1;exact⟨by have:=Int.eq_of_mul_eq_mul_left (show g≠0 by omega) h1;omega,(List.cons.inj e).2⟩
 ·
  obtain⟨⟨v1,v2⟩,l,e,v3,v4⟩:=(Zb5 m0).1 hv
  cases v with
  | nil=>rw[List.length_nil]at v1;omega
  | cons y w =>
   rw[List.length_cons]at v1;obtain⟨l1,l2⟩:=(h l).1 v3;obtain⟨y0,y1⟩:=v2.mem (List.mem_cons_self);have gy:g∣y:=by have k:=v4 0 (by omega);rw[V_c0]at k;have k1:=Int.dvd_sub (Int.dvd_add (Int.dvd_trans gn l1) (Int.dvd_mul_of_dvd_left (c:=e 0) gd)) (Int.dvd_trans ⟨q,hq⟩ k);rwa[show l 0+d*e 0-(l 0+d*e 0-y)=y by omega]at k1
   obtain⟨a,ha⟩:=gy;have a0:0<=a:=by
    rcases Int.lt_or_le a 0 with h|h
    ·have:=Int.mul_le_mul_of_nonneg_left (show a <= -1 by omega) (Int.le_of_lt g0);omega
    ·exact h
   have a1:a<q:=by
    rcases Int.lt_or_le a q with h|h
    ·exact h
    ·have:=Int.mul_le_mul_of_nonneg_left h (Int.le_of_lt g0);omega
   refine⟨a.toNat,List.mem_range.2 (by omega),w,(Zb5 m0).2 ⟨⟨by omega,ZbO λ z hz=>v2.mem (List.mem_cons_of_mem _ hz)⟩,_,λ i=>e (i+1),l2,λ i hi=>?_⟩,by rw[Int.toNat_of_nonneg a0,<-ha]⟩;have:=v4 (i+1) (by omega);rwa[V_cs]at this
def cmb (G:Nat->Vc) (c:Vc):Nat->Vc
 | 0=>λ _=>0
 | k+1=>λ i=>cmb G c k i+c k*G k i
theorem Zcg (G:Nat->Vc) (c e:Vc) (t:Int) (i:Nat):∀k,cmb G (λ i=>c i+t*e i) k i=cmb G c k i+t*cmb G e k i
 | 0=>by simp[cmb]
 | k+1=>by show cmb G (λ i=>c i+t*e i) k i+(c k+t*e k)*G k i=cmb G c k i+c k*G k i+t*(cmb G e k i+e k*G k i);rw[Zcg G c e t i k,Int.add_mul,Int.mul_add,Int.mul_assoc];omega
theorem ZcT {m:Int} {G:Nat->Vc} {c e:Vc} (i:Nat):∀k,(∀j,j<k->m∣c j-e j)->m∣cmb G c k i-cmb G e k i
 | 0,_=>ZaG (by simp[cmb])
 | k+1,h=>by
  have h1:=ZcT (G:=G) i k λ j hj=>h j (by omega)
  have h2:=Int.dvd_add h1 (Int.dvd_mul_of_dvd_left (c:=G k i) (h k (by omega)));show m∣cmb G c k i+c k*G k i-(cmb G e k i+e k*G k i);rwa[Int.sub_mul,show ∀a b c d:Int,a-b+(c-d)=a+c-(b+d)from λ a b c d=>by omega]at h2
theorem Zjh {m:Int} {W r:Nat} {G:Nat->Vc} {X:Vc->Prop} (hX:Sub m W X):Sub m r λ c=>X (cmb G c r) where
 zero:=hX.alike _ _ hX.zero λ i _=>by have:=Zcg G (λ _=>0) (λ _=>0) (-1) i r;simp only[Int.mul_zero,Int.add_zero]at this;exact ZaG (by omega)
 lin:=λ x y h1 h2 c=>hX.alike _ _ (hX.lin _ _ h1 h2 c) λ i _=>ZaG (by rw[Zcg])
 alike:=λ x y h k=>hX.alike _ _ h λ i _=>ZcT i r k
theorem Sub.neg {m:Int} {W:Nat} {M:Vc->Prop} (hM:Sub m W M) {x y:Vc} (hx:M x) (hy:M y):M λ i=>x i-y i:=hM.alike _ _ (hM.lin _ _ hx hy (-1)) λ i _=>ZaG (by omega)
theorem fib {m:Int} (m0:0<m) {W r:Nat} {G:Nat->Vc} {X:Vc->Prop} (hX:Sub m W X) (hz:∀x,X x->∃c,∀i,i<W->m∣cmb G c r i-x i) :
  ct m r (λ c=>X (cmb G c r))=ct m W X*ct m r (λ c=>∀i,i<W->m∣cmb G c r i):=by
 have hZ:Sub m W λ x=>∀i,i<W->m∣x i:=⟨λ i _=>Int.dvd_zero _,λ x y h k c i hi=>Int.dvd_add (h i hi) (Int.dvd_mul_of_dvd_right (k i hi)),λ x y h k i hi=>by have:=Int.dvd_sub (h i hi) (k i hi);rwa[show x i-(x i-y i)=y i by omega]at this⟩
 have hK:=Zjh (r:=r) (G:=G) hZ;have hs:∀v:List Int,∃c:Vc,X (V v)->∀i,i<W->m∣cmb G c r i-V v i:=λ v=>by
  by_cases h:X (V v)
  ·obtain⟨c,hc⟩:=hz _ h;exact⟨c,λ _=>hc⟩
  ·exact⟨λ _=>0,λ k=>absurd k h⟩
 obtain⟨s,hs⟩:=Classical.axiomOfChoice hs;refine ZiH (ZcU ..) (ZcU ..) (ZcU ..) (λ a c=>nf m r λ i=>s a i+1*V c i) (λ a ha c hc=>?_) (λ a ha c hc a' ha' c' hc' e=>?_) λ v hv=>?_
 ·obtain⟨a1,a2⟩:=(Zb5 m0).1 ha;obtain⟨c1,c2⟩:=(Zb5 m0).1 hc;refine(Zib m0 (Zjh hX)).2 (hX.alike _ _ a2 λ i hi=>?_);rw[Zcg,Int.one_mul];have:=Int.dvd_add (hs a a2 i hi) (c2 i hi);rw[show cmb G (s a) r i-V a i+cmb G (V c) r i=cmb G (s a) r i+cmb G (V c) r i-V a i by omega]at this;exact ZbI this
 ·
  obtain⟨a1,a2⟩:=(Zb5 m0).1 ha;obtain⟨c1,c2⟩:=(Zb5 m0).1 hc;obtain⟨a1', a2'⟩:=(Zb5 m0).1 ha';obtain⟨c1', c2'⟩:=(Zb5 m0).1 hc';have k:=nf_eq e;have ea:a=a':=Zfb m0 a1 a1' λ i hi=>by
   have k1:=ZcT (m:=m) (G:=G) i r k;rw[Zcg,Zcg,Int.one_mul,Int.one_mul]at k1;have k2:=hs a a2 i hi;have k3:=hs a' a2' i hi;have k4:=c2 i hi;have k5:=c2' i hi;obtain⟨z1,e1⟩:=k1;obtain⟨z2,e2⟩:=k2;obtain⟨z3,e3⟩:=k3;obtain⟨z4,e4⟩:=k4;obtain⟨z5,e5⟩:=k5
   exact⟨z1-z2+z3-z4+z5,by rw[Int.mul_add,Int.mul_sub,Int.mul_add,Int.mul_sub];omega⟩
  subst ea;exact⟨rfl,Zfb m0 c1 c1' λ i hi=>by have:=k i hi;rwa[Int.one_mul,Int.one_mul,show ∀a b c:Int,a+b-(a+c)=b-c from λ a b c=>by omega]at this⟩
 ·
  obtain⟨v1,v2⟩:=(Zb5 m0).1 hv;obtain⟨a,ha⟩:∃a,a=nf m W (cmb G (V v) r):=⟨_,rfl⟩
  have am:a∈ctl m W (λ v=>X (V v)):=by rw[ha];exact(Zib m0 hX).2 v2
  have a2:=((Zb5 m0).1 am).2;refine⟨a,am,nf m r λ i=>V v i+(-1)*s a i,(Zib m0 hK).2 λ i hi=>?_,?_⟩
  ·rw[Zcg];have k1:=hs a a2 i hi;have k2:=Zc0 (m:=m) (x:=cmb G (V v) r) hi;rw[<-ha]at k2;have:=Int.dvd_sub k2 k1;rwa[show ∀a b c:Int,a-b-(c-b)=a + -1*c from λ a b c=>by omega]at this
  ·
   refine Zfb m0 ⟨ZeJ ..,nf_in m0 _ _⟩ v1 λ i hi=>?_
   have k1:=Zc0 (m:=m) (x:=λ i=>s a i+1*V (nf m r λ i=>V v i+(-1)*s a i) i) hi;have k2:=Zc0 (m:=m) (x:=λ i=>V v i+(-1)*s a i) hi;have:=Int.dvd_add k1 k2;rw[show ∀a b c d:Int,a+1*b-c+(d + -1*a-b)=d-c from λ a b c d=>by omega]at this;exact ZbI this
theorem ZmQ {m:Int} (m2:2<=m) (m12:m<=12) {W:Nat} {p:List (List Int)} {M:Vc->Prop} (hM:Lead m W p M) {x:List Int} (hx:x.length=W) (ha:AllIn m x):∃y,Least m W p M x y:=by
 have key:∀k,k<=W->∃y t,Least0 m W k p M x y t:=by
  intro k
  induction k with
  | zero=>exact λ _=>⟨_,_,Least0.begin hM hx ha⟩
  | succ k ih =>
   intro hk;obtain⟨y,t,h⟩:=ih (by omega)
   by_cases hr:row p (k:Int)=[]
   ·exact⟨_,_,h.skip (by omega) hr⟩
   ·exact⟨_,_,h.take m2 m12 hM (by omega) hr⟩
 obtain⟨y,t,h⟩:=key W (Nat.le_refl _);exact⟨y,h.fin⟩
noncomputable def dvl (m:Int) (p:List (List Int)) (W:Nat):List Nat:=(List.range W).map λ j=>(dv m p j).toNat
theorem Zn3 (m:Int) (p:List (List Int)) (W:Nat):(dvl m p W).length=W:=by simp[dvl]
theorem ZiQ {m:Int} (m2:2<=m) (m12:m<=12) {W:Nat} {p:List (List Int)} {M:Vc->Prop} (hM:Lead m W p M):m.toNat ^ W=ct m W M*prodN (dvl m p W):=by
 have m0:0<m:=by omega
 rw[<-Zkn,<-Zei];have hb:∀c,c∈boxl (dvl m p W)↔c.length=W/\∀i:Nat,i<W->0<=rd c (i:Int)/\rd c (i:Int)<dv m p i:=λ c=>by
  rw[Zfy,Zn3];refine and_congr_right λ _=>forall_congr' λ i=>forall_congr' λ hi=>?_
  rw[show(((dvl m p W).getD i 0:Nat):Int)=dv m p i by have:=(dv_bd m0 hM.tab hi).1;simp[dvl,hi];omega]
 have hc:∀c∈boxl (dvl m p W),c.length=W/\AllIn m c:=λ c hc=>by obtain⟨h1,h2⟩:=(hb c).1 hc;refine⟨h1,λ i i0 i1=>?_⟩;obtain⟨n,rfl⟩:=Int.eq_ofNat_of_zero_le i0;have:=h2 n (by omega);have:=(dv_bd m0 hM.tab (show n<W by omega)).2.1;omega
 refine ZiH (ZcU ..) (Zd4 _) (Zd4 _) (λ a c=>nf m W λ i=>V a i+1*V c i) (λ a ha c hc=>?_) (λ a ha c hc' a' ha' c' hc'' e=>?_) λ v hv=>?_
 ·exact(Zhe m0).2 ⟨ZeJ ..,nf_in m0 _ _⟩
 ·
  obtain⟨a1,a2⟩:=(Zb5 m0).1 ha;obtain⟨a1', a2'⟩:=(Zb5 m0).1 ha';have k:=nf_eq e;obtain⟨x,hx⟩:∃x,x=nf m W λ i=>V a i+1*V c i:=⟨_,rfl⟩
  have key:∀a c,c∈boxl (dvl m p W)->M (V a)->(∀i,i<W->m∣V a i+1*V c i-V x i)->Least m W p M x c:=λ a c h1 h2 h3=>by obtain⟨c1,c2⟩:=(hb c).1 h1;refine⟨c1,(hc c h1).2,hM.sub.alike _ _ h2 λ i hi=>?_,λ j hj=>(c2 j hj).2⟩;have:=h3 i hi;rwa[show V a i+1*V c i-V x i=V a i-(rd x (i:Int)-rd c (i:Int))by simp only[V];omega]at this
  have e1:=key a c hc' a2 λ i hi=>by rw[hx];exact Zc0 (x:=λ i=>V a i+1*V c i) hi
  have e2:=key a' c' hc'' a2' λ i hi=>by rw[hx,e];exact Zc0 (x:=λ i=>V a' i+1*V c' i) hi
  have ec:=e1.same m0 hM hM e2;subst ec;exact⟨Zfb m0 a1 a1' λ i hi=>by have:=k i hi;rwa[show ∀a b c:Int,a+1*b-(c+1*b)=a-c from λ a b c=>by omega]at this,rfl⟩
 ·have v1:=(Zhe m0).1 hv;obtain⟨y,hy⟩:=ZmQ m2 m12 hM v1.1 v1.2;refine⟨nf m W λ i=>rd v (i:Int)-rd y (i:Int),(Zib m0 hM.sub).2 hy.dif,y,(hb y).2 ⟨hy.len,λ i hi=>⟨(hy.ent i (by omega) (by have:=hy.len;omega)).1,hy.lt i hi⟩⟩,Zfb m0 ⟨ZeJ ..,nf_in m0 _ _⟩ v1 λ i hi=>?_⟩;have k1:=Zc0 (m:=m) (x:=λ i=>V (nf m W λ i=>rd v (i:Int)-rd y (i:Int)) i+1*V y i) hi;have k2:=Zc0 (m:=m) (x:=λ i=>rd v (i:Int)-rd y (i:Int)) hi;have:=Int.dvd_add k1 k2;rw[show V y i=rd y (i:Int)from rfl,show ∀a b c d:Int,a+1*b-c+(d-b-a)=d-c from λ a b c d=>by omega]at this;exact ZbI this
def Gl (rows:List (List Int)):Vc->Prop:=λ g=>∃r∈rows,g=V r
def Mx (m:Int) (W:Nat) (rows:List (List Int)):Vc->Prop:=Sp m W (Gl rows)
def Eqd (m:Int) (W:Nat) (M M' : Vc->Prop):Prop:=∀d,ct m W (ad m W d M)=ct m W (ad m W d M')
theorem Eqd.trans {m:Int} {W:Nat} {M M' M'' : Vc->Prop} (h:Eqd m W M M') (k:Eqd m W M' M''):Eqd m W M M'':=λ d=>(h d).trans (k d)
theorem Eqd.of {m:Int} {W:Nat} {M M' : Vc->Prop} (h:∀x,M x↔M' x):Eqd m W M M':=λ d=>by rw[show M=M' from funext λ x=>propext (h x)]
theorem ZoN {m:Int} {W:Nat} {rows:List (List Int)} {r:List Int} (h:r∈rows):Mx m W rows (V r):=.gen ⟨r,h,rfl⟩
theorem Mx_le {m:Int} {W:Nat} {rows rows' : List (List Int)} (h:∀r∈rows,Mx m W rows' (V r)) {x:Vc} (hx:Mx m W rows x):Mx m W rows' x:=hx.mono λ g ⟨r,hr,e⟩=>e ▸ h r hr
theorem ZdH {m:Int} {W:Nat} {rows rows' : List (List Int)} (h:∀r∈rows,Mx m W rows' (V r)) (h' : ∀r∈rows', Mx m W rows (V r)):Eqd m W (Mx m W rows) (Mx m W rows'):=.of λ x=>⟨Mx_le h,Mx_le h'⟩
def pairT (a b:Nat) (p q s t:Int) (x:Vc):Vc:=λ i=>if i=a then p*x a+q*x b else if i=b then s*x a+t*x b else x i
theorem Zip (a b:Nat) (p q s t:Int) (x y:Vc) (c:Int):pairT a b p q s t (λ i=>x i+c*y i)=λ i=>pairT a b p q s t x i+c*pairT a b p q s t y i:=by
 funext i
 unfold pairT
 by_cases h1:i=a
 ·rw[if_pos h1,if_pos h1,if_pos h1,Int.mul_add,Int.mul_add,Int.mul_add,Int.mul_left_comm c p,Int.mul_left_comm c q];omega
 ·
  rw[if_neg h1,if_neg h1,if_neg h1]
  by_cases h2:i=b
  ·rw[if_pos h2,if_pos h2,if_pos h2,Int.mul_add,Int.mul_add,Int.mul_add,Int.mul_left_comm c s,Int.mul_left_comm c t];omega
  ·rw[if_neg h2,if_neg h2,if_neg h2]
theorem Zgd {m:Int} {r a b:Nat} (ha:a<r) (hb:b<r) (p q s t:Int) {x y:Vc} (h:∀i,i<r->m∣x i-y i):∀i,i<r->m∣pairT a b p q s t x i-pairT a b p q s t y i:=λ i hi=>by
 have two:∀p q:Int,m∣p*x a+q*x b-(p*y a+q*y b):=λ p q=>by have:=Int.dvd_add (Int.dvd_mul_of_dvd_right (b:=p) (h a ha)) (Int.dvd_mul_of_dvd_right (b:=q) (h b hb));rwa[Int.mul_sub,Int.mul_sub,show ∀a b c d:Int,a-b+(c-d)=a+c-(b+d)from λ a b c d=>by omega]at this
 unfold pairT
 by_cases h1:i=a
 ·rw[if_pos h1,if_pos h1];exact two p q
 ·
  rw[if_neg h1,if_neg h1]
  by_cases h2:i=b
  ·rw[if_pos h2,if_pos h2];exact two s t
  ·rw[if_neg h2,if_neg h2];exact h i hi
theorem ZgH {a b:Nat} (hab:a≠b) {p q s t p' q' s' t' : Int} (e1:p' * p+q' * s=1) (e2:p' * q+q' * t=0) (e3:s' * p+t' * s=0) (e4:s' * q+t' * t=1) (x:Vc):pairT a b p' q' s' t' (pairT a b p q s t x)=x:=by
 have ea:pairT a b p q s t x a=p*x a+q*x b:=if_pos rfl;have eb:pairT a b p q s t x b=s*x a+t*x b:=by unfold pairT;rw[if_neg (by omega),if_pos rfl]
 have two:∀p' q' : Int,p' * (p*x a+q*x b)+q' * (s*x a+t*x b)=(p' * p+q' * s)*x a+(p' * q+q' * t)*x b:=λ p' q'=>by rw[Int.mul_add,Int.mul_add,Int.add_mul,Int.add_mul,Int.mul_assoc,Int.mul_assoc,Int.mul_assoc,Int.mul_assoc];omega
 funext i
 rw[pairT,ea,eb,two,two,e1,e2,e3,e4]
 by_cases h1:i=a
 ·rw[if_pos h1,h1];omega
 ·
  rw[if_neg h1]
  by_cases h2:i=b
  ·rw[if_pos h2,h2];omega
  ·rw[if_neg h2,pairT,if_neg h1,if_neg h2]
theorem ZeM {m:Int} {r a b:Nat} (hab:a≠b) (ha:a<r) (hb:b<r) {p q s t p' q' s' t' : Int} (e1:p' * p+q' * s=1) (e2:p' * q+q' * t=0) (e3:s' * p+t' * s=0) (e4:s' * q+t' * t=1)
  (f1:p*p' + q*s'=1) (f2:p*q' + q*t'=0) (f3:s*p' + t*s'=0) (f4:s*q' + t*t'=1):Aut m r (pairT a b p q s t) (pairT a b p' q' s' t') where
 t1:=λ x y c i _=>ZaG (by rw[Zip])
 s1:=λ x y c i _=>ZaG (by rw[Zip])
 t2:=λ x y h=>Zgd ha hb _ _ _ _ h
 s2:=λ x y h=>Zgd ha hb _ _ _ _ h
 st:=λ x i _=>ZaG (by rw[ZgH hab e1 e2 e3 e4])
 ts:=λ x i _=>ZaG (by rw[ZgH hab f1 f2 f3 f4])
theorem Znp {m:Int} {W:Nat} {rows rows' : List (List Int)} {T S:Vc->Vc} (h:Aut m W T S) (hr:∀r∈rows,∃r' ∈ rows', ∀i,i<W->m∣T (V r) i-V r' i) {x:Vc} (hx:Mx m W rows x):Mx m W rows' (T x):=by
 induction hx with
 | nil =>
  refine .alike .nil λ i hi=>?_
  have:=h.t1 (λ _=>0) (λ _=>0) (-1) i hi;rw[show(λ i:Nat=>(0:Int) + -1*0)=λ _=>0 from funext λ _=>by omega]at this;obtain⟨q,hq⟩:=this;exact⟨-q,by rw[Int.mul_neg];omega⟩
 | @add x0 g0 c _ hg ih =>
  obtain⟨r,hr1,rfl⟩:=hg;obtain⟨r', h1,h2⟩:=hr r hr1;refine .alike (.add c ih ⟨r', h1,rfl⟩) λ i hi=>?_
  have k1:=h.t1 x0 (V r) c i hi;have k2:=Int.dvd_mul_of_dvd_right (b:=c) (h2 i hi);have:=Int.dvd_add k1 k2;rw[Int.mul_sub]at this;exact ZbI (by rwa[show ∀a b c d:Int,a-(b+c)+(c-d)=a-(b+d)from λ a b c d=>by omega]at this)
 | alike _ h' ih=>exact .alike ih (h.t2 _ _ h')
theorem Aut.symm {m:Int} {r:Nat} {T S:Vc->Vc} (h:Aut m r T S):Aut m r S T:=⟨h.s1,h.t1,h.s2,h.t2,h.ts,h.st⟩
theorem Zk1 {m:Int} (m0:0<m) {W:Nat} {rows rows' : List (List Int)} {T S:Vc->Vc} (h:Aut m W T S) (hl:rows'.length=rows.length) (hr:∀k:Nat,k<rows.length->∀i,i<W->m∣T (V (row rows (k:Int))) i-V (row rows' (k:Int)) i):Eqd m W (Mx m W rows) (Mx m W rows'):=by
 refine λ d=>h.ct m0 Sp.sub Sp.sub (λ x hx=>Znp h (λ r hr'=>?_) hx) (λ x hx=>Znp h.symm (λ r hr'=>?_) hx) d
 ·obtain⟨k,k0,k1,rfl⟩:=Zds hr';obtain⟨n,rfl⟩:=Int.eq_ofNat_of_zero_le k0;exact⟨_,Zgi k0 (by omega),hr n (by omega)⟩
 ·obtain⟨k,k0,k1,rfl⟩:=Zds hr';obtain⟨n,rfl⟩:=Int.eq_ofNat_of_zero_le k0;refine⟨_,Zgi k0 (by omega),λ i hi=>?_⟩;exact dvd_trans' (ZbI (h.s2 _ _ (hr n (by omega)) i hi)) (h.st _ i hi)
def gq (m d n:Int):Nat:=(m / ((Int.gcd n d:Nat):Int)).toNat
def Dg (m:Int) (r:Nat) (M:Vc->Prop) (ns:List Int):Prop:=∀d,0<d->d∣m->ct m r (ad m r d M)=prodN (ns.map λ n=>gq m d n)
theorem Dg.eqd {m:Int} {r:Nat} {M M' : Vc->Prop} {ns:List Int} (h:Dg m r M' ns) (k:Eqd m r M M'):Dg m r M ns:=λ d d0 hd=>(k d).trans (h d d0 hd)
theorem Dg.nil {m:Int} (m0:0<m) {M:Vc->Prop} (hM:Sub m 0 M):Dg m 0 M []:=λ d _ _=>by
 have:ctl m 0 (λ v=>ad m 0 d M (V v))=[[]]:=by
  have h:(vecs m 0)=[[]]:=rfl;rw[ctl,h,List.filter_cons,B_pos (show ad m 0 d M (V [])from⟨_,λ _=>0,hM.zero,λ i hi=>absurd hi (Nat.not_lt_zero _)⟩)]
  rfl
 rw[ct,this]
 rfl
theorem Dg.cons {m:Int} (m0:0<m) {r:Nat} {n:Int} (hn:n∣m) (n0:0<n) {M M' : Vc->Prop} {ns:List Int} (hM' : Sub m r M') (h:∀x,M x↔n∣x 0/\M' (λ i=>x (i+1))) (k:Dg m r M' ns):Dg m (r+1) M (n :: ns):=λ d d0 hd=>by
 rw[ZmK m0 hn hd n0 d0 hM' h,k d d0 hd]
 rfl
theorem Dg.zero {m:Int} (m0:0<m):∀r:Nat,Dg m r (λ x=>∀i,i<r->m∣x i) (List.replicate r m)
 | 0=>.nil m0 ⟨λ i hi=>absurd hi (Nat.not_lt_zero _),λ _ _ _ _ _ i hi=>absurd hi (Nat.not_lt_zero _),λ _ _ _ _ i hi=>absurd hi (Nat.not_lt_zero _)⟩
 | r+1=>by
  rw[List.replicate_succ];refine .cons m0 (Int.dvd_refl m) m0 (M':=λ x=>∀i,i<r->m∣x i) ⟨λ i _=>Int.dvd_zero _,λ x y h k c i hi=>Int.dvd_add (h i hi) (Int.dvd_mul_of_dvd_right (k i hi)),λ x y h k i hi=>?_⟩ (λ x=>⟨λ h=>⟨h 0 (by omega),λ i hi=>h (i+1) (by omega)⟩,λ h i hi=>?_⟩) (Dg.zero m0 r)
  ·have:=Int.dvd_sub (h i hi) (k i hi);rwa[show x i-(x i-y i)=y i by omega]at this
  ·
   cases i with
   | zero=>exact h.1
   | succ i=>exact h.2 i (by omega)
theorem ZnP {m:Int} {W:Nat} {rows:List (List Int)} (h:∀r∈rows,∀i,i<W->V r i=0) (x:Vc):Mx m W rows x↔∀i,i<W->m∣x i:=by
 constructor
 ·intro hx i hi;exact Sp.dvd (Int.dvd_refl m) hi (λ g ⟨r,hr,e⟩=>by rw[e,h r hr i hi];exact Int.dvd_zero m) hx
 ·intro hx;exact .alike .nil λ i hi=>ZbI (by rw[Int.sub_zero];exact hx i hi)
theorem ZnO {m:Int} {W:Nat} {f:List Int} {rest:List (List Int)} {n:Int} (hn:n∣m) (h0:V f 0=n) (hf:∀i,0<i->i<W+1->V f i=0) (hr:∀r∈rest,V r 0=0) (x:Vc) :
  Mx m (W+1) (f :: rest) x↔n∣x 0/\Mx m W (rest.map λ r=>r.drop 1) (λ i=>x (i+1)):=by
 have hd:∀r:List Int,V (r.drop 1)=λ i=>V r (i+1):=λ r=>by
  funext i
  rw[V,V,Zcu,Zcu,List.getD_eq_getElem?_getD,List.getD_eq_getElem?_getD,List.getElem?_drop,Nat.add_comm]
 constructor
 ·
  intro hx
  induction hx with
  | nil=>exact⟨Int.dvd_zero n,.nil⟩
  | add c _ hg ih =>
   obtain⟨r,hr', rfl⟩:=hg;rcases List.mem_cons.1 hr' with rfl|hr'
   ·refine⟨Int.dvd_add ih.1 ⟨c,by rw[h0,Int.mul_comm]⟩,.alike ih.2 λ i hi=>ZaG ?_⟩;show _=_+c*V r (i+1);rw[hf (i+1) (by omega) (by omega)];omega
   ·
    refine⟨Int.dvd_add ih.1 (by rw[hr r hr', Int.mul_zero];exact Int.dvd_zero n),?_⟩
    exact .alike (.add c ih.2 ⟨_,List.mem_map.2 ⟨r,hr', rfl⟩,rfl⟩) λ i _=>ZaG (by rw[hd])
  | alike _ h ih =>
   refine⟨?_,.alike ih.2 λ i hi=>h (i+1) (by omega)⟩;have:=Int.dvd_sub ih.1 (Int.dvd_trans hn (h 0 (by omega)));rwa[show ∀a b:Int,a-(a-b)=b from λ a b=>by omega]at this
 ·
  rintro⟨⟨q,hq⟩,hx⟩;have key:∀y,Mx m W (rest.map λ r=>r.drop 1) y->Mx m (W+1) (f :: rest) (λ i=>if i=0 then 0 else y (i-1)):=λ y hy=>by
   induction hy with
   | nil=>exact .alike .nil λ i _=>ZaG (by split<;>rfl)
   | add c _ hg ih =>
    obtain⟨r', hr', rfl⟩:=hg;obtain⟨r,hr2,rfl⟩:=List.mem_map.1 hr';refine .alike (.add c ih ⟨r,List.mem_cons_of_mem _ hr2,rfl⟩) λ i _=>ZaG ?_
    cases i with
    | zero=>show(if 0=0 then(0:Int)else _)+c*V r 0=_;rw[if_pos rfl,if_pos rfl,hr r hr2];omega
    | succ i=>rw[if_neg (by omega),if_neg (by omega),hd,Nat.add_sub_cancel]
   | alike _ h ih =>
    refine .alike ih λ i hi=>?_
    cases i with
    | zero=>exact ZaG (by rw[if_pos rfl,if_pos rfl])
    | succ i=>rw[if_neg (by omega),if_neg (by omega),Nat.add_sub_cancel];exact h i (by omega)
  refine .alike (.add q (key _ hx) ⟨f,List.mem_cons_self,rfl⟩) λ i hi=>ZaG ?_
  cases i with
  | zero=>rw[if_pos rfl,h0,hq,Int.mul_comm];omega
  | succ i=>rw[if_neg (by omega),hf (i+1) (by omega) hi,Nat.add_sub_cancel];omega
theorem Zl9 {m:Int} (m0:0<m) {W r:Nat} {Z Bs:Vc->Prop} {G:Nat->Vc} (hZ:Sub m W Z) (hB:Sub m W Bs) (hG:∀x,Z x↔∃c,∀i,i<W->m∣cmb G c r i-x i) (hBZ:∀x,Bs x->Z x) {L:Vc->Prop} (hL:∀c,L c↔Bs (cmb G c r)) (d:Int) :
  ct m r (ad m r d L)*ct m W Z=m.toNat ^ r*ct m W (λ x=>∃b z,Bs b/\Z z/\∀i,i<W->m∣b i+d*z i-x i):=by
 have hLs:Sub m r L:=by rw[show L=λ c=>Bs (cmb G c r)from funext λ c=>propext (hL c)];exact Zjh hB
 have hX:Sub m W (λ x=>∃b z,Bs b/\Z z/\∀i,i<W->m∣b i+d*z i-x i):=⟨⟨_,_,hB.zero,hZ.zero,λ i _=>ZaG (by simp)⟩,λ x y ⟨b,z,h1,h2,h3⟩ ⟨b', z', k1,k2,k3⟩ c=>⟨_,_,hB.lin _ _ h1 k1 c,hZ.lin _ _ h2 k2 c,λ i hi=>by have:=Int.dvd_add (h3 i hi) (Int.dvd_mul_of_dvd_right (b:=c) (k3 i hi));rwa[show b i+d*z i-x i+c*(b' i+d*z' i-y i)=b i+c*b' i+d*(z i+c*z' i)-(x i+c*y i)by rw[Int.mul_add d,Int.mul_sub,Int.mul_add,Int.mul_left_comm d c];omega]at this⟩,λ x y ⟨b,z,h1,h2,h3⟩ h=>⟨b,z,h1,h2,λ i hi=>dvd_trans' (h3 i hi) (h i hi)⟩⟩
 have mem:∀c:Vc,Z (cmb G c r):=λ c=>(hG _).2 ⟨c,λ i _=>ZaG rfl⟩
 have e1:=fib m0 (r:=r) (G:=G) hX λ x ⟨b,z,h1,h2,h3⟩=>(hG x).1 (hZ.alike _ _ (hZ.lin _ _ (hBZ _ h1) h2 d) h3)
 have e2:=fib m0 (r:=r) (G:=G) hZ λ x hx=>(hG x).1 hx
 have e3:ct m r (λ c=>Z (cmb G c r))=m.toNat ^ r:=by rw[<-ZoV];exact ZjJ m0 λ c=>⟨λ _=>trivial,λ _=>mem c⟩
 have e4:ct m r (ad m r d L)=ct m r (λ c=>∃b z,Bs b/\Z z/\∀i,i<W->m∣b i+d*z i-cmb G c r i):=ZjJ m0 λ c=>by
  constructor
  ·rintro⟨l,e,h1,h2⟩;refine⟨_,_,(hL l).1 h1,mem e,λ i _=>?_⟩;have:=ZcT (m:=m) (G:=G) i r h2;rwa[Zcg]at this
  ·rintro⟨b,z,h1,h2,h3⟩;obtain⟨e,he⟩:=(hG z).1 h2;refine⟨λ i=>c i+(-d)*e i,e,(hL _).2 (hB.alike _ _ h1 λ i hi=>?_),λ i _=>ZaG (by show c i + -d*e i+d*e i=c i;rw[Int.neg_mul];omega)⟩;rw[Zcg,Int.neg_mul];have k1:=h3 i hi;have k2:=Int.dvd_mul_of_dvd_right (b:=d) (he i hi);have:=Int.dvd_add k1 k2;rw[Int.mul_sub]at this;rwa[show ∀a b c e:Int,a+b-c+(e-b)=a-(c + -e)from λ a b c e=>by omega]at this
 rw[e4,e1,<-e3,e2];simp only[Nat.mul_assoc,Nat.mul_comm,Nat.mul_left_comm]
def nn (p:List (List Int)) (W:Nat):List Nat:=(List.range W).filter λ j=>decide (row p (j:Int)≠[])
def gen (p:List (List Int)) (at_:List Nat):Nat->Vc:=λ k=>V (row p ((at_.getD k 0:Nat):Int))
def pick (at_:List Nat) (t:List Int):List Int:=at_.map λ j:Nat=>rd t (j:Int)
theorem ZeN (at_:List Nat) (t:List Int):(pick at_ t).length=at_.length:=List.length_map ..
theorem Zes {at_:List Nat} {t:List Int} {k:Nat} (h:k<at_.length):rd (pick at_ t) (k:Int)=rd t ((at_.getD k 0:Nat):Int):=by
 rw[rd_get (by rw[ZeN];exact h),List.getD_eq_getElem?_getD,List.getElem?_eq_getElem h]
 simp[pick]
theorem ZnB {p:List (List Int)} {W j:Nat}:j∈nn p W↔j<W/\row p (j:Int)≠[]:=by rw[nn,List.mem_filter,List.mem_range,decide_eq_true_iff]
theorem ZdV (p:List (List Int)) (W:Nat):nn p (W+1)=nn p W++if row p (W:Int)≠[]then [W]else []:=by
 rw[nn,List.range_succ,List.filter_append,<-nn]
 congr 1
 by_cases h:row p (W:Int)≠[]
 ·rw[if_pos h];simp[h]
 ·rw[if_neg h];simp[Classical.not_not.1 h]
theorem nn_at {p:List (List Int)} {W k:Nat} (h:k<(nn p W).length):(nn p W).getD k 0<W/\row p (((nn p W).getD k 0:Nat):Int)≠[]:=by rw[List.getD_eq_getElem?_getD,List.getElem?_eq_getElem h];exact ZnB.1 (List.getElem_mem h)
theorem nn_lt {p:List (List Int)} {W k l:Nat} (h:k<l) (hl:l<(nn p W).length):(nn p W).getD k 0<(nn p W).getD l 0:=by have hp:(nn p W).Pairwise (· < ·):=List.Pairwise.filter _ (List.pairwise_lt_range (n:=W));have:=(List.pairwise_iff_getElem.1 hp) k l (by omega) hl h;rwa[List.getD_eq_getElem?_getD,List.getD_eq_getElem?_getD,List.getElem?_eq_getElem (show k<(nn p W).length by omega),List.getElem?_eq_getElem hl]
theorem Zme {m:Int} {W:Nat} {p:List (List Int)} (ht:PTab m W p) {j:Nat} (hj:j<W):row p (j:Int)≠[]↔dv m p j<m:=by
 by_cases h:row p (j:Int)=[]
 ·rw[show dv m p j=m from if_pos h];exact⟨λ k=>absurd h k,λ k=>by omega⟩
 ·rw[show dv m p j=rd (row p (j:Int)) (j:Int)from if_neg h];exact⟨λ _=>(ht.prow hj h).lt,λ _=>h⟩
theorem Zol {m:Int} (m0:0<m) {W:Nat} {p p' : List (List Int)} {M:Vc->Prop} (h:Lead m W p M) (h' : Lead m W p' M):nn p W=nn p' W:=by
 refine List.filter_congr λ j hj=>?_
 have hj:=List.mem_range.1 hj;refine decide_eq_decide.2 ?_;rw[Zme h.tab hj,Zme h'.tab hj,ZiS m0 h h' hj]
theorem ZhU {G G' : Nat->Vc} {c c' : Vc}:∀n,(∀k,k<n->c k=c' k/\G k=G' k)->cmb G c n=cmb G' c' n
 | 0,_=>rfl
 | n+1,h=>by
  funext i
  rw[cmb,cmb,ZhU n λ k hk=>h k (by omega),(h n (by omega)).1,(h n (by omega)).2]
theorem Zh7 (p:List (List Int)) (t:List Int):∀W,lc p t W=cmb (gen p (nn p W)) (V (pick (nn p W) t)) (nn p W).length
 | 0=>rfl
 | W + 1=>by
  have ih:=Zh7 p t W;rw[ZdV]
  by_cases h:row p (W:Int)≠[]
  ·
   rw[if_pos h,List.length_append,List.length_singleton]
   funext i
   rw[Zep,cmb,ih];have e1:cmb (gen p (nn p W)) (V (pick (nn p W) t)) (nn p W).length=cmb (gen p (nn p W++[W])) (V (pick (nn p W++[W]) t)) (nn p W).length:=ZhU _ λ k hk=>by
    have e:(nn p W++[W]).getD k 0=(nn p W).getD k 0:=by rw[List.getD_eq_getElem?_getD,List.getD_eq_getElem?_getD,List.getElem?_append_left hk]
    constructor
    ·show rd _ (k:Int)=rd _ (k:Int);rw[Zes hk,Zes (by rw[List.length_append];omega),e]
    ·rw[gen,gen,e]
   have e2:(nn p W++[W]).getD (nn p W).length 0=W:=by rw[List.getD_eq_getElem?_getD,List.getElem?_append_right (Nat.le_refl _),Nat.sub_self];rfl
   have e3:V (pick (nn p W++[W]) t) (nn p W).length=rd t (W:Int):=by show rd _ (((nn p W).length:Nat):Int)=_;rw[Zes (by simp),e2]
   rw[e1,e3,gen,e2]
   rfl
  ·
   rw[if_neg h,List.append_nil]
   funext i
   rw[Zep,ih,Classical.not_not.1 h,show rd ([]:List Int) (i:Int)=0 by rw[Zcu];rfl]
   omega
theorem Sub.cmb {m:Int} {W:Nat} {M:Vc->Prop} (hM:Sub m W M) {G:Nat->Vc} {c:Vc}:∀n,(∀k,k<n->M (G k))->M (cmb G c n)
 | 0,_=>hM.zero
 | n+1,h=>hM.lin _ _ (Sub.cmb hM n λ k hk=>h k (by omega)) (h n (by omega)) _
theorem Zdq {m:Int} (m2:2<=m) (m12:m<=12) {W:Nat} {p:List (List Int)} {M:Vc->Prop} (hM:Lead m W p M) (x:Vc):M x↔∃c,∀i,i<W->m∣cmb (gen p (nn p W)) c (nn p W).length i-x i:=by
 have m0:0<m:=by omega
 constructor
 ·
  intro hx;have hl:=ZeJ m W x;have key:∀k,k<=W->∃y t,Least0 m W k p M (nf m W x) y t:=by
   intro k
   induction k with
   | zero=>exact λ _=>⟨_,_,Least0.begin hM hl (nf_in m0 W x)⟩
   | succ k ih =>
    intro hk;obtain⟨y,t,h⟩:=ih (by omega)
    by_cases hr:row p (k:Int)=[]
    ·exact⟨_,_,h.skip (by omega) hr⟩
    ·exact⟨_,_,h.take m2 m12 hM (by omega) hr⟩
  obtain⟨y,t,h⟩:=key W (Nat.le_refl _);have hz:Zr y:=(h.fin.zero_iff m0 hM).2 (hM.sub.alike _ _ hx λ i hi=>Zc0 hi);refine⟨V (pick (nn p W) t),λ i hi=>?_⟩;have h1:=h.tak i hi;have h2:=Zc0 (m:=m) (x:=x) hi;rw[hz i (by omega) (by have:=h.len;omega),Zh7]at h1;have:=Int.dvd_add h1 h2;rw[show V (nf m W x) i=rd (nf m W x) (i:Int)from rfl,show ∀a b c:Int,a-0-b+(c-a)=c-b from λ a b c=>by omega]at this;exact ZbI this
 ·rintro⟨c,hc⟩;exact hM.sub.alike _ _ (hM.sub.cmb _ λ k hk=>hM.own _ (nn_at hk).1 (nn_at hk).2) hc
theorem ZnW {m:Int} {G:Nat->Vc} {c:Vc} {k a:Nat}:∀r,k<r->(∀i,i<r->i≠k->m∣c i*G i a)->m∣cmb G c r a-c k*G k a:=by
 have zero:∀r,(∀i,i<r->m∣c i*G i a)->m∣cmb G c r a:=by
  intro r
  induction r with
  | zero=>exact λ _=>Int.dvd_zero m
  | succ r ih=>exact λ h=>Int.dvd_add (ih λ i hi=>h i (by omega)) (h r (by omega))
 intro r
 induction r with
 | zero=>intro h;omega
 | succ r ih =>
  intro hk h;rw[cmb]
  by_cases e:k=r
  ·subst e;rw[show ∀a b:Int,a+b-b=a from λ a b=>by omega];exact zero k λ i hi=>h i (by omega) (by omega)
  ·
   have h1:=ih (by omega) λ i hi hne=>h i (by omega) hne
   have:=Int.dvd_add h1 (h r (by omega) (λ e'=>e e'.symm));rwa[show ∀a b c:Int,a-b+c=a+c-b from λ a b c=>by omega]at this
theorem Zlh (G T:Nat->Vc) (e:Vc) (r i:Nat):∀n,cmb G (cmb T e n) r i=cmb (λ l=>cmb G (T l) r) e n i
 | 0=>by have:=Zcg G (λ _=>0) (λ _=>0) (-1) i r;simp only[Int.mul_zero,Int.add_zero]at this;show cmb G (λ _=>0) r i=0;omega
 | n+1=>by
  show cmb G (λ i=>cmb T e n i+e n*T n i) r i=_;rw[Zcg,Zlh G T e r i n]
  rfl
theorem ZjD {m:Int} {G G' : Nat->Vc} {c:Vc} {i:Nat}:∀n,(∀k,k<n->m∣G k i-G' k i)->m∣cmb G c n i-cmb G' c n i
 | 0,_=>ZaG rfl
 | n+1,h=>by
  have h1:=ZjD (c:=c) n λ k hk=>h k (by omega)
  have h2:=Int.dvd_mul_of_dvd_right (b:=c n) (h n (by omega));have:=Int.dvd_add h1 h2;rw[Int.mul_sub,show ∀a b c d:Int,a-b+(c-d)=a+c-(b+d)from λ a b c d=>by omega]at this;exact this
theorem Zo3 {m:Int} (m0:0<m) {W:Nat} {p:List (List Int)} (ht:PTab m W p) {S:Vc->Prop} (hS:Sub m (nn p W).length S) {R:Nat->Vc}
  (hR:∀k,k<(nn p W).length->S (R k)/\(∀i,i<k->R k i=0)/\m∣R k k-m / gen p (nn p W) k ((nn p W).getD k 0)/\∀i,i<W->m∣cmb (gen p (nn p W)) (R k) (nn p W).length i) :
  ∀(n:Nat) (c:Vc),n<=(nn p W).length->(∀i,i<W->m∣cmb (gen p (nn p W)) c (nn p W).length i)->(∀i,i<(nn p W).length-n->m∣c i)->S c:=by
 intro n
 induction n with
 | zero=>exact λ c _ _ hz=>hS.alike _ _ hS.zero λ i hi=>ZbI (by rw[Int.sub_zero];exact hz i (by omega))
 | succ n ih =>
  intro c hn hc hz;obtain⟨k,hk⟩:∃k,k=(nn p W).length-(n+1):=⟨_,rfl⟩
  have hkr:k<(nn p W).length:=by omega
  obtain⟨h1,h2,h3,h4⟩:=hR k hkr;obtain⟨a1,a2⟩:=nn_at hkr;have hP:=ht.prow a1 a2;have hd:gen p (nn p W) k ((nn p W).getD k 0)=rd (row p (((nn p W).getD k 0:Nat):Int)) (((nn p W).getD k 0:Nat):Int):=rfl;obtain⟨q,hq⟩:=hP.dvd;have p0:=hP.pos;have hmq:m / gen p (nn p W) k ((nn p W).getD k 0)=q:=by rw[hd,hq];exact Int.mul_ediv_cancel_left _ (by omega)
  have hone:=ZnW (m:=m) (G:=gen p (nn p W)) (c:=c) (k:=k) (a:=(nn p W).getD k 0) (nn p W).length hkr λ i hi hne=>by
   by_cases hik:i<k
   ·exact Int.dvd_mul_of_dvd_left (hz i (by omega))
   ·obtain⟨b1,b2⟩:=nn_at hi;have:gen p (nn p W) i ((nn p W).getD k 0)=0:=(ht.prow b1 b2).zero _ (nn_lt (show k<i by omega) hi);rw[this,Int.mul_zero];exact Int.dvd_zero m
  have hck:m∣c k*gen p (nn p W) k ((nn p W).getD k 0):=by have:=Int.dvd_sub (hc _ a1) hone;rwa[show ∀a b:Int,a-(a-b)=b from λ a b=>by omega]at this
  obtain⟨s,hs⟩:q∣c k:=by obtain⟨s,hs⟩:=hck;refine⟨s,Int.eq_of_mul_eq_mul_left (show rd (row p (((nn p W).getD k 0:Nat):Int)) (((nn p W).getD k 0:Nat):Int)≠0 by omega) ?_⟩;rw[hd]at hs;rw[Int.mul_comm,hs,<-Int.mul_assoc,<-hq]
  have key:=ih (λ i=>c i+(-s)*R k i) (by omega) (λ i hi=>by
   rw[Zcg];exact Int.dvd_add (hc i hi) (Int.dvd_mul_of_dvd_right (h4 i hi))) λ i hi=>by
   by_cases e:i=k
   ·subst e;rw[hmq]at h3;have:=Int.dvd_mul_of_dvd_right (b:=-s) h3;show m∣c i + -s*R i i;rw[hs,Int.mul_comm q s];rwa[Int.mul_sub,Int.neg_mul s q,show ∀a b:Int,a - -b=b+a from λ a b=>by omega]at this
   ·
    have hi' : i<k:=by omega
    show m∣c i + -s*R k i;rw[h2 i hi', Int.mul_zero,Int.add_zero];exact hz i (by omega)
  refine hS.alike _ _ (hS.lin _ _ key h1 s) λ i _=>ZaG ?_
  rw[Int.neg_mul];omega
theorem Zou {m:Int} (m2:2<=m) (m12:m<=12) {W:Nat} {p pb:List (List Int)} (ht:PTab m W p) {Bs:Vc->Prop} (hB:Lead m W pb Bs) {S:Vc->Prop} (hS:Sub m (nn p W).length S) {R T:Nat->Vc}
  (hR:∀k,k<(nn p W).length->S (R k)/\(∀i,i<k->R k i=0)/\m∣R k k-m / gen p (nn p W) k ((nn p W).getD k 0)/\∀i,i<W->m∣cmb (gen p (nn p W)) (R k) (nn p W).length i)
  (hT:∀l,l<(nn pb W).length->S (T l)/\∀i,i<W->m∣cmb (gen p (nn p W)) (T l) (nn p W).length i-gen pb (nn pb W) l i)
  (hle:∀c,S c->Bs (cmb (gen p (nn p W)) c (nn p W).length)) (c:Vc):S c↔Bs (cmb (gen p (nn p W)) c (nn p W).length):=by
 refine⟨hle c,λ h=>?_⟩;obtain⟨e,he⟩:=(Zdq m2 m12 hB _).1 h;have hc' : S (cmb T e (nn pb W).length):=hS.cmb _ λ l hl=>(hT l hl).1
 have key:=Zo3 (by omega) ht hS hR (nn p W).length (λ i=>c i+(-1)*cmb T e (nn pb W).length i) (Nat.le_refl _) (λ i hi=>by
  rw[Zcg,Zlh];have k1:=ZjD (m:=m) (c:=e) (i:=i) (G:=λ l=>cmb (gen p (nn p W)) (T l) (nn p W).length) (G':=gen pb (nn pb W)) (nn pb W).length λ l hl=>(hT l hl).2 i hi
  have k2:=he i hi;have:=Int.dvd_add k1 k2;rw[show ∀a b c:Int,a-b+(b-c)=a-c from λ a b c=>by omega]at this;have:=ZbI this;rwa[show ∀a b:Int,a-b=a + -1*b from λ a b=>by omega]at this) λ i hi=>by omega
 refine hS.alike _ _ (hS.lin _ _ key hc' 1) λ i _=>ZaG ?_
 omega
open Go.RowKit Go.Proofs.YtdamfbighdkcbaaGreat.D Go.Proofs.YtdamfbighdkcbaaGreat.P
def Rok (m:Int) (W:Nat) (r:List (List Int)):Prop:=∀i:Nat,i<r.length->(row r (i:Int)).length=W/\AllIn m (row r (i:Int))
theorem Rok.set {m:Int} {W:Nat} {r:List (List Int)} (h:Rok m W r) {j:Nat} {x:List Int} (hx:x.length=W/\AllIn m x):Rok m W (r.set j x):=λ i hi=>by
 rw[List.length_set]at hi
 by_cases e:i=j
 ·subst e;rw[ZaX hi];exact hx
 ·rw[Zbm e];exact h i hi
theorem Zbx (r:List (List Int)) (j:Nat):r.set j (row r (j:Int))=r:=by
 by_cases h:j<r.length
 ·rw[Zbz h];exact List.set_getElem_self h
 ·exact List.set_eq_of_length_le (by omega)
theorem Rok.bd {m:Int} {W:Nat} {r:List (List Int)} (h:Rok m W r) {i k:Nat} (hi:i<r.length) (hk:k<W):0<=rd (row r (i:Int)) (k:Int)/\rd (row r (i:Int)) (k:Int)<m:=(h i hi).2 k (by omega) (by have:=(h i hi).1;omega)
theorem ZbR {m:Int} {W:Nat} {r:List (List Int)} {i:Nat} (h:i<r.length):Mx m W r (V (row r (i:Int))):=ZoN (Zgi (by omega) (by omega))
theorem Mx_same' {m:Int} {W:Nat} {r r' : List (List Int)} (hl:r'.length=r.length) (h:∀i:Nat,i<r.length->Mx m W r' (V (row r (i:Int)))) (h' : ∀i:Nat,i<r.length->Mx m W r (V (row r' (i:Int)))):Eqd m W (Mx m W r) (Mx m W r'):=by
 refine ZdH (λ x hx=>?_) λ x hx=>?_
 ·obtain⟨i,i0,i1,rfl⟩:=Zds hx;obtain⟨n,rfl⟩:=Int.eq_ofNat_of_zero_le i0;exact h n (by omega)
 ·obtain⟨i,i0,i1,rfl⟩:=Zds hx;obtain⟨n,rfl⟩:=Int.eq_ofNat_of_zero_le i0;exact h' n (by omega)
theorem mix_V {m:Int} (m0:0<m) {W:Nat} {M:Vc->Prop} {x y:Int} {a b:List Int} (ha:a.length=W) (hA:Sub m W M) (h1:M (V a)) (h2:M (V b)):M (V (mix m x a y b)):=by
 refine hA.alike _ _ (hA.lin _ _ (hA.lin _ _ hA.zero h1 x) h2 y) λ i hi=>?_
 have:=Zb1 (m:=m) (x:=x) (a:=a) (y:=y) (b:=b) (i:=i) (by omega);show m∣0+x*rd a (i:Int)+y*rd b (i:Int)-rd (mix m x a y b) (i:Int);rwa[Int.zero_add]
theorem Zmd {m:Int} (m0:0<m) {W:Nat} {r:List (List Int)} (h:Rok m W r) {i j:Nat} (hi:i<r.length) (hj:j<r.length) (hij:i≠j) (y:Int):Eqd m W (Mx m W r) (Mx m W (r.set i (mix m 1 (row r (i:Int)) y (row r (j:Int))))):=by
 have hl:(r.set i (mix m 1 (row r (i:Int)) y (row r (j:Int)))).length=r.length:=List.length_set;have hjr:Mx m W (r.set i (mix m 1 (row r (i:Int)) y (row r (j:Int)))) (V (row r (j:Int))):=by have:=ZbR (m:=m) (W:=W) (r:=r.set i (mix m 1 (row r (i:Int)) y (row r (j:Int)))) (i:=j) (by omega);rwa[Zbm (Ne.symm hij)]at this
 refine Mx_same' hl (λ k hk=>?_) λ k hk=>?_
 ·
  by_cases e:k=i
  ·
   subst e;have h1:=ZbR (m:=m) (W:=W) (r:=r.set k (mix m 1 (row r (k:Int)) y (row r (j:Int)))) (i:=k) (by omega);rw[ZaX hk]at h1;refine Sp.two (a:=1) (b:=-y) h1 hjr λ i hi=>?_
   have:=Zb1 (m:=m) (x:=1) (a:=row r (k:Int)) (y:=y) (b:=row r (j:Int)) (i:=i) (by have:=(h k hk).1;omega)
   obtain⟨q,hq⟩:=this;refine⟨-q,?_⟩;rw[Int.mul_neg,<-hq,Int.neg_mul];show 1*rd (mix m 1 (row r (k:Int)) y (row r (j:Int))) (i:Int) + -(y*rd (row r (j:Int)) (i:Int))-rd (row r (k:Int)) (i:Int)=_;omega
  ·have:=ZbR (m:=m) (W:=W) (r:=r.set i (mix m 1 (row r (i:Int)) y (row r (j:Int)))) (i:=k) (by omega);rwa[Zbm e]at this
 ·
  by_cases e:k=i
  ·subst e;rw[ZaX hk];exact mix_V m0 (h k hk).1 Sp.sub (ZbR hk) (ZbR hj)
  ·rw[Zbm e];exact ZbR hk
theorem Zhw {m:Int} (m0:0<m) {W:Nat} {r:List (List Int)} (h:Rok m W r) {i:Nat} (hi:i<r.length) {u v:Int} (huv:m∣u*v-1) (b:List Int):Eqd m W (Mx m W r) (Mx m W (r.set i (mix m u (row r (i:Int)) 0 b))):=by
 have hl:(r.set i (mix m u (row r (i:Int)) 0 b)).length=r.length:=List.length_set;refine Mx_same' hl (λ k hk=>?_) λ k hk=>?_
 ·
  by_cases e:k=i
  ·
   subst e;have h1:=ZbR (m:=m) (W:=W) (r:=r.set k (mix m u (row r (k:Int)) 0 b)) (i:=k) (by omega);rw[ZaX hk]at h1;refine .alike (h1.mul v) λ i hi=>?_
   have:=Zb1 (m:=m) (x:=u) (a:=row r (k:Int)) (y:=0) (b:=b) (i:=i) (by have:=(h k hk).1;omega)
   obtain⟨q,hq⟩:=this;obtain⟨s,hs⟩:=huv;refine⟨-(v*q)+s*rd (row r (k:Int)) (i:Int),?_⟩;show v*rd (mix m u (row r (k:Int)) 0 b) (i:Int)-rd (row r (k:Int)) (i:Int)=_;have e1:v*(u*rd (row r (k:Int)) (i:Int)+0*rd b (i:Int)-rd (mix m u (row r (k:Int)) 0 b) (i:Int))=v*(m*q):=by rw[hq]
   have e2:(u*v-1)*rd (row r (k:Int)) (i:Int)=m*s*rd (row r (k:Int)) (i:Int):=by rw[hs]
   rw[Int.zero_mul,Int.add_zero,Int.mul_sub,<-Int.mul_assoc]at e1;rw[Int.sub_mul,Int.one_mul,Int.mul_comm u v]at e2;rw[Int.mul_add,Int.mul_neg,Int.mul_left_comm m v q,<-Int.mul_assoc m s];omega
  ·have:=ZbR (m:=m) (W:=W) (r:=r.set i (mix m u (row r (i:Int)) 0 b)) (i:=k) (by omega);rwa[Zbm e]at this
 ·
  by_cases e:k=i
  ·
   subst e;rw[ZaX hk];refine .alike ((ZbR (m:=m) (W:=W) hk).mul u) λ i hi=>?_
   have:=Zb1 (m:=m) (x:=u) (a:=row r (k:Int)) (y:=0) (b:=b) (i:=i) (by have:=(h k hk).1;omega)
   rwa[Int.zero_mul,Int.add_zero]at this
  ·rw[Zbm e];exact ZbR hk
theorem Zj9 {m:Int} {W:Nat} {r:List (List Int)} {i j:Nat} (hi:i<r.length) (hj:j<r.length):Eqd m W (Mx m W r) (Mx m W ((r.set i (row r (j:Int))).set j (row r (i:Int)))):=by
 have hl:((r.set i (row r (j:Int))).set j (row r (i:Int))).length=r.length:=by rw[List.length_set,List.length_set]
 have hr:∀k:Nat,row ((r.set i (row r (j:Int))).set j (row r (i:Int))) (k:Int)=if k=j then row r (i:Int)else if k=i then row r (j:Int)else row r (k:Int):=λ k=>by
  by_cases e:k=j
  ·subst e;rw[if_pos rfl,ZaX (by rw[List.length_set];exact hj)]
  ·
   rw[if_neg e,Zbm e]
   by_cases e2:k=i
   ·subst e2;rw[if_pos rfl,ZaX hi]
   ·rw[if_neg e2,Zbm e2]
 refine Mx_same' hl (λ k hk=>?_) λ k hk=>?_
 ·
  have own:∀n:Nat,n<r.length->Mx m W ((r.set i (row r (j:Int))).set j (row r (i:Int))) (V (row ((r.set i (row r (j:Int))).set j (row r (i:Int))) (n:Int))):=λ n hn=>ZbR (by omega)
  by_cases e:k=i
  ·have:=own j hj;rw[hr,if_pos rfl]at this;rw[e];exact this
  ·
   by_cases e2:k=j
   ·
    have:=own i hi;rw[hr]at this
    by_cases e3:i=j
    ·exact absurd (e2.trans e3.symm) e
    ·rw[if_neg e3,if_pos rfl]at this;rw[e2];exact this
   ·have:=own k hk;rwa[hr,if_neg e2,if_neg e]at this
 ·
  rw[hr]
  split
  ·exact ZbR hi
  ·
   split
   ·exact ZbR hj
   ·exact ZbR hk
theorem Znb {m:Int} (m0:0<m) {W:Nat} {r:List (List Int)} (h:Rok m W r) {i j:Nat} (hi:i<r.length) (hj:j<r.length) (hij:i≠j) {p q s t p' q' s' t' : Int} (e1:p' * p+q' * s=1) (e2:p' * q+q' * t=0) (e3:s' * p+t' * s=0) (e4:s' * q+t' * t=1) :
  Eqd m W (Mx m W r) (Mx m W ((r.set j (mix m s (row r (i:Int)) t (row r (j:Int)))).set i (mix m p (row r (i:Int)) q (row r (j:Int))))):=by
 obtain⟨A,hA⟩:∃A,A=mix m p (row r (i:Int)) q (row r (j:Int)):=⟨_,rfl⟩
 obtain⟨C,hC⟩:∃C,C=mix m s (row r (i:Int)) t (row r (j:Int)):=⟨_,rfl⟩
 rw[<-hA,<-hC];have hl:((r.set j C).set i A).length=r.length:=by rw[List.length_set,List.length_set]
 have ra:row ((r.set j C).set i A) (i:Int)=A:=ZaX (by rw[List.length_set];exact hi)
 have rc:row ((r.set j C).set i A) (j:Int)=C:=by rw[Zbm (Ne.symm hij),ZaX hj]
 have ro:∀k:Nat,k≠i->k≠j->row ((r.set j C).set i A) (k:Int)=row r (k:Int):=λ k h1 h2=>by rw[Zbm h1,Zbm h2]
 have mA:=ZbR (m:=m) (W:=W) (r:=(r.set j C).set i A) (i:=i) (by omega);have mC:=ZbR (m:=m) (W:=W) (r:=(r.set j C).set i A) (i:=j) (by omega);rw[ra]at mA;rw[rc]at mC;have dA:∀k:Nat,k<W->m∣p*rd (row r (i:Int)) (k:Int)+q*rd (row r (j:Int)) (k:Int)-rd A (k:Int):=λ k hk=>by rw[hA];exact Zb1 (by have:=(h i hi).1;omega)
 have dC:∀k:Nat,k<W->m∣s*rd (row r (i:Int)) (k:Int)+t*rd (row r (j:Int)) (k:Int)-rd C (k:Int):=λ k hk=>by rw[hC];exact Zb1 (by have:=(h i hi).1;omega)
 have lin:∀a b x y u v:Int,a*(p*x+q*y-u)+b*(s*x+t*y-v)=(a*p+b*s)*x+(a*q+b*t)*y-(a*u+b*v):=λ a b x y u v=>by rw[Int.mul_sub,Int.mul_sub,Int.mul_add,Int.mul_add,Int.add_mul,Int.add_mul,Int.mul_assoc,Int.mul_assoc,Int.mul_assoc,Int.mul_assoc];omega
 refine Mx_same' hl (λ k hk=>?_) λ k hk=>?_
 ·
  by_cases ei:k=i
  ·
   subst ei;refine Sp.two (a:=p') (b:=q') mA mC λ n hn=>?_
   have:=Int.dvd_add (Int.dvd_mul_of_dvd_right (b:=p') (dA n hn)) (Int.dvd_mul_of_dvd_right (b:=q') (dC n hn));rw[lin,e1,e2,Int.one_mul,Int.zero_mul,Int.add_zero]at this;exact ZbI this
  ·
   by_cases ej:k=j
   ·
    subst ej;refine Sp.two (a:=s') (b:=t') mA mC λ n hn=>?_
    have:=Int.dvd_add (Int.dvd_mul_of_dvd_right (b:=s') (dA n hn)) (Int.dvd_mul_of_dvd_right (b:=t') (dC n hn));rw[lin,e3,e4,Int.one_mul,Int.zero_mul,Int.zero_add]at this;exact ZbI this
   ·have:=ZbR (m:=m) (W:=W) (r:=(r.set j C).set i A) (i:=k) (by omega);rwa[ro k ei ej]at this
 ·
  by_cases ei:k=i
  ·rw[ei,ra,hA];exact mix_V m0 (h i hi).1 Sp.sub (ZbR hi) (ZbR hj)
  ·
   by_cases ej:k=j
   ·rw[ej,rc,hC];exact mix_V m0 (h i hi).1 Sp.sub (ZbR hi) (ZbR hj)
   ·rw[ro k ei ej];exact ZbR hk
def updR (f:List Int->List Int) (r:List (List Int)) (j:Nat):List (List Int):=(r.take j).map f++r.drop j
theorem ZeV (f:List Int->List Int) (r:List (List Int)):updR f r 0=r:=rfl
theorem ZfD (f:List Int->List Int) (r:List (List Int)):updR f r r.length=r.map f:=by rw[updR,List.take_length,List.drop_length,List.append_nil]
theorem ZeT (f:List Int->List Int) (r:List (List Int)) (j:Nat):(updR f r j).length=r.length:=by rw[updR,List.length_append,List.length_map,<-List.length_append,List.take_append_drop]
theorem ZfE (f:List Int->List Int) (r:List (List Int)) {j:Nat} (hj:j<r.length):row (updR f r j) (j:Int)=row r (j:Int):=by
 rw[Zbz (by rw[ZeT];exact hj),Zbz hj]
 simp only[updR];rw[List.getElem_append_right (by simp;omega)];simp
 congr 1
 omega
theorem ZeU (f:List Int->List Int) (r:List (List Int)) {j:Nat} (hj:j<r.length):(updR f r j).set j (f (row r (j:Int)))=updR f r (j+1):=by
 have hl:((r.take j).map f).length=j:=by simp;omega
 rw[updR,updR,List.set_append_right _ _ (by omega),hl,Nat.sub_self,List.take_add_one,List.map_append,List.append_assoc]
 congr 1
 rw[List.getElem?_eq_getElem hj,List.drop_eq_getElem_cons hj,Zbz hj,List.set_cons_zero]
 rfl
theorem Zb0 (f:List Int->List Int) (r:List (List Int)) {j:Nat} (hj:j<r.length):row (r.map f) (j:Int)=f (row r (j:Int)):=by rw[Zbz (by rw[List.length_map];exact hj),Zbz hj,List.getElem_map]
def colf (m:Int) (k:Nat) (s t u v:Int) (x:List Int):List Int:=(x.set 0 ((s*rd x 0+t*rd x (k:Int))%m)).set k ((u*rd x 0+v*rd x (k:Int))%m)
theorem ZmI (m:Int) (k:Nat) (s t u v:Int) (x:List Int):(colf m k s t u v x).length=x.length:=by rw[colf,List.length_set,List.length_set]
theorem ZnZ {m:Int} (m0:0<m) (k:Nat) (s t u v:Int) {x:List Int} (hx:AllIn m x):AllIn m (colf m k s t u v x):=ZbO λ z hz=>by
 rcases List.mem_or_eq_of_mem_set hz with h|h
 ·
  rcases List.mem_or_eq_of_mem_set h with h|h
  ·exact hx.mem h
  ·rw[h];exact⟨Int.emod_nonneg _ (by omega),Int.emod_lt_of_pos _ m0⟩
 ·rw[h];exact⟨Int.emod_nonneg _ (by omega),Int.emod_lt_of_pos _ m0⟩
theorem Zlj {m:Int} {k:Nat} {s t u v:Int} {x:List Int} (k0:0<k) (hk:k<x.length) (i:Nat):rd (colf m k s t u v x) (i:Int)=if i=0 then(s*rd x 0+t*rd x (k:Int))%m else if i=k then(u*rd x 0+v*rd x (k:Int))%m else rd x (i:Int):=by
 unfold colf
 by_cases e:i=0
 ·subst e;rw[if_pos rfl,ZbE (by omega),Zbw (by omega)]
 ·
  rw[if_neg e]
  by_cases e2:i=k
  ·subst e2;rw[if_pos rfl,Zbw (by rw[List.length_set];exact hk)]
  ·rw[if_neg e2,ZbE e2,ZbE e]
theorem ZmG {m:Int} (m0:0<m) {W:Nat} {r:List (List Int)} (h:Rok m W r) {k:Nat} (k0:0<k) (hk:k<W) {p q s t p' q' s' t' : Int} (e1:p' * p+q' * s=1) (e2:p' * q+q' * t=0) (e3:s' * p+t' * s=0) (e4:s' * q+t' * t=1)
  (f1:p*p' + q*s'=1) (f2:p*q' + q*t'=0) (f3:s*p' + t*s'=0) (f4:s*q' + t*t'=1):Eqd m W (Mx m W r) (Mx m W (r.map (colf m k p q s t))):=by
 refine Zk1 m0 (ZeM (r:=W) (a:=0) (b:=k) (by omega) (by omega) hk e1 e2 e3 e4 f1 f2 f3 f4) (List.length_map ..) λ n hn i hi=>?_
 rw[Zb0 _ _ hn];show m∣pairT 0 k p q s t (V (row r (n:Int))) i-rd (colf m k p q s t (row r (n:Int))) (i:Int);rw[Zlj k0 (by rw[(h n hn).1];exact hk),pairT]
 by_cases e:i=0
 ·rw[if_pos e,if_pos e];exact Int.dvd_self_sub_emod
 ·
  rw[if_neg e,if_neg e]
  by_cases e2:i=k
  ·rw[if_pos e2,if_pos e2];exact Int.dvd_self_sub_emod
  ·rw[if_neg e2,if_neg e2];exact ZaG rfl
theorem Rok.colf {m:Int} (m0:0<m) {W:Nat} {r:List (List Int)} (h:Rok m W r) (k:Nat) (p q s t:Int):Rok m W (r.map (V.colf m k p q s t)):=λ i hi=>by rw[List.length_map]at hi;rw[Zb0 _ _ hi];exact⟨by rw[ZmI];exact(h i hi).1,ZnZ m0 _ _ _ _ _ (h i hi).2⟩
theorem Zld {d x g s t:Int} (h:s*d+t*x=g) (g0:0<g) (gd:g∣d) (gx:g∣x):∃a b,d=g*a/\x=g*b/\s*a+t*b=1/\d / g=a/\x / g=b:=by obtain⟨a,ha⟩:=gd;obtain⟨b,hb⟩:=gx;refine⟨a,b,ha,hb,Int.eq_of_mul_eq_mul_left (show g≠0 by omega) ?_,by rw[ha];exact Int.mul_ediv_cancel_left _ (by omega),by rw[hb];exact Int.mul_ediv_cancel_left _ (by omega)⟩;rw[Int.mul_add,Int.mul_one,Int.mul_left_comm g s,Int.mul_left_comm g t,<-ha,<-hb,h]
theorem w_div {x g:Int} (x0:0<=x) (x1:x<=1000000) (g0:0<g):wrapI (Int.tdiv x g)=x / g/\0<=x / g/\x / g<=x:=by have d0:0<=x / g:=Int.ediv_nonneg x0 (by omega);have d1:x / g<=x:=Int.ediv_le_self _ x0;rw[Zdy x0];exact⟨w64 (by omega) (by omega),d0,d1⟩
structure CI (m:Int) (W n:Nat) (X r:List (List Int)):Prop where
 len:r.length=n
 ok:Rok m W r
 eqd:Eqd m W (Mx m W X) (Mx m W r)
 pos:0<T r 0 0
 dvd:T r 0 0∣m
def fst0 (r:List (List Int)):List Int:=row r ((0:Nat):Int)
section
variable {m:Int} {W n:Nat} {X:List (List Int)}
theorem CI.lt {r:List (List Int)} (h:CI m W n X r) (n0:0<n) (W0:0<W):T r 0 0<m:=(h.ok.bd (i:=0) (k:=0) (by have:=h.len;omega) W0).2
theorem Tn (r:List (List Int)) (i k:Nat):T r (i:Int) (k:Int)=rd (row r (i:Int)) (k:Int):=rfl
theorem T0 (r:List (List Int)) (k:Int):T r 0 k=rd (fst0 r) k:=rfl
theorem Ti (r:List (List Int)) (i:Int):T r i 0=rd (row r i) ((0:Nat):Int):=rfl
theorem Zkv (m2:2<=m) (m12:m<=12) (W0:0<W) (hW:W<=1000) (hn:n<=100000) {row0:List Int}:∀(c i:Nat) (r:List (List Int)),i+c=n->1<=i->CI m W n X r->(T r 0 0<rd row0 0\/(fst0 r=row0/\∀k:Nat,1<=k->k<i->T r (k:Int) 0=0)) ->
  ∃r', Zh.l2 (W:Int) m false (i:Int) r=Zh.l3 (W:Int) m false 1 r' /\ CI m W n X r' /\ (T r' 0 0<rd row0 0\/(fst0 r'=row0/\∀k:Nat,1<=k->k<n->T r' (k:Int) 0=0)):=by
 intro c
 induction c with
 | zero =>
  intro i r hi h1 hC hD;have hl:=hC.len;have:i=n:=by omega
  subst this;refine⟨r,?_,hC,hD⟩;rw[Zh.l2_eq]
  ((with_reducible repeat (first|refine go_p ?_|refine go_n ?_|refine go_b ?_|dsimp only));first|done|(with_reducible rfl)|simp (disch:=omega) only[w64])
 | succ c ih =>
  intro i r hi h1 hC hD;have hl:=hC.len;have dp:=hC.pos;have dm:=hC.lt (by omega) W0;obtain⟨l0,a0⟩:=hC.ok 0 (by omega);obtain⟨li,ai⟩:=hC.ok i (by omega);have l0' : (row r 0).length=W:=l0;obtain⟨x0,x1⟩:=hC.ok.bd (i:=i) (k:=0) (by omega) W0;obtain⟨d,hd⟩:∃d,d=T r 0 0:=⟨_,rfl⟩
  obtain⟨x,hx⟩:∃x,x=T r (i:Int) 0:=⟨_,rfl⟩
  have x0:0<=x:=by rw[hx];exact x0
  have x1:x<m:=by rw[hx];exact x1
  have hs0:r.set (0:Int).toNat (row r 0)=r:=Zbx r 0;have hsi:r.set (i:Int).toNat (row r (i:Int))=r:=by rw[Int.toNat_natCast];exact Zbx r i
  have t0:(0:Int).toNat=0:=rfl;have h0i:row r 0=row r ((0:Nat):Int):=rfl;rw[Zh.l2_eq,wn (j:=i) (by omega)];simp only[hs0,hsi,<-hd,<-hx];rw[<-hd]at dp dm;have hdd:d∣m:=by rw[hd];exact hC.dvd
  by_cases hxd:Int.tmod x d=0
  ·
   obtain⟨e1,e2,e3⟩:=w_div x0 (by omega) dp;have e4:wrapI (0-x / d) = -(x / d):=by rw[w64 (by omega) (by omega)];omega
   have hM:=Mix_ m2 m12 (x:=1) (y:=-(x / d)) ai a0 (by omega) (by omega) (by omega) (by omega) (by omega) (by omega);have hM:ZU.f (row r (i:Int)) (row r 0) 1 (-(x / d)) m=some (mix m 1 (row r (i:Int)) (-(x / d)) (row r ((0:Nat):Int))):=hM;obtain⟨r', hr'⟩:∃r', r'=r.set i (mix m 1 (row r (i:Int)) (-(x / d)) (row r ((0:Nat):Int))):=⟨_,rfl⟩
   have hf:fst0 r'=fst0 r:=by rw[hr'];exact Zbm (by omega)
   have hT:T r' 0 0=d:=by rw[T0,hf,hd];rfl
   have hC' : CI m W n X r':=⟨by rw[hr', List.length_set];exact hl,by rw[hr'];exact hC.ok.set ⟨by rw[Zbl];exact li,Zcp (by omega)⟩,hC.eqd.trans (by rw[hr'];exact Zmd (by omega) hC.ok (by omega) (by omega) (by omega) _),by rw[hT];exact dp,by rw[hT];exact hdd⟩
   obtain ⟨r2,k1,k2,k3⟩:=ih (i+1) r' (by omega) (by omega) hC' (by
    rcases hD with hD|⟨hD1,hD2⟩
    ·left;rw[hT,hd];exact hD
    ·
     refine .inr ⟨by rw[hf];exact hD1,λ k hk1 hk2=>?_⟩
     rw[Ti,hr']
     by_cases e:k=i
     ·
      subst e;rw[ZaX (by omega),ZbT (by omega)];rw[Ti]at hx;rw[<-hx,show rd (row r ((0:Nat):Int)) ((0:Nat):Int)=d from hd.symm,Int.neg_mul,Int.one_mul,Int.ediv_mul_cancel (ZcG.1 hxd),show x + -x=0 by omega]
      rfl
     ·rw[Zbm e];exact hD2 k hk1 (by omega))
   refine⟨r2,?_,k2,k3⟩;rw[e1,e4,Int.toNat_natCast,<-k1,hr']
   ((with_reducible repeat (first|refine go_p ?_|refine go_n ?_|refine go_b ?_|dsimp only));first|done|(with_reducible rfl)|simp (disch:=omega) only[w64])
  ·
   obtain⟨s,t,h1', h2', h3', h4'⟩:=ZiA (a:=d) (b:=x) (by omega) (by omega) x0 (by omega);obtain⟨g,hg⟩:∃g,g=((Int.gcd d x:Nat):Int):=⟨_,rfl⟩
   rw[<-hg]at h1' h2';have gd:g∣d:=by rw[hg];exact Int.gcd_dvd_left ..
   have gx:g∣x:=by rw[hg];exact Int.gcd_dvd_right ..
   have g0:0<g:=by rw[hg];exact_mod_cast Int.gcd_pos_of_ne_zero_left x (by omega)
   have gld:g<d:=by
    have:=Int.le_of_dvd dp gd;rcases Int.lt_or_eq_of_le this with h|h
    ·exact h
    ·exact absurd (ZcG.2 (h ▸ gx)) hxd
   obtain⟨a,b,ha,hb,hab,hda,hxb⟩:=Zld h2' g0 gd gx;obtain⟨e1,e2,e3⟩:=w_div x0 (by omega) g0;obtain⟨f1,f2,f3⟩:=w_div (x:=d) (by omega) (by omega) g0;rw[hxb]at e1 e2 e3;rw[hda]at f1 f2 f3;have e4:wrapI (0-a) = -a:=by rw[w64 (by omega) (by omega)];omega
   have hM1:=Mix_ m2 m12 (x:=s) (y:=t) a0 ai (by omega) (by omega) (by omega) (by omega) (by omega) (by omega);have hM1:ZU.f (row r 0) (row r (i:Int)) s t m=some (mix m s (row r ((0:Nat):Int)) t (row r (i:Int))):=hM1;have hM2:=Mix_ m2 m12 (x:=b) (y:=-a) a0 ai (by omega) (by omega) (by omega) (by omega) (by omega) (by omega);have hM2:ZU.f (row r 0) (row r (i:Int)) b (-a) m=some (mix m b (row r ((0:Nat):Int)) (-a) (row r (i:Int))):=hM2;obtain⟨r', hr'⟩:∃r', r'=(r.set i (mix m b (row r ((0:Nat):Int)) (-a) (row r (i:Int)))).set 0 (mix m s (row r ((0:Nat):Int)) t (row r (i:Int))):=⟨_,rfl⟩
   have hT:T r' 0 0=g:=by show rd (row r' ((0:Nat):Int)) ((0:Nat):Int)=g;rw[hr', ZaX (by rw[List.length_set];omega),ZbT (by omega),show rd (row r ((0:Nat):Int)) ((0:Nat):Int)=d from hd.symm,show rd (row r (i:Int)) ((0:Nat):Int)=x from hx.symm,h2'];exact Int.emod_eq_of_lt (by omega) (by omega)
   have hC' : CI m W n X r':=⟨by rw[hr', List.length_set,List.length_set];exact hl,by rw[hr'];exact(hC.ok.set ⟨by rw[Zbl];exact l0,Zcp (by omega)⟩).set ⟨by rw[Zbl];exact l0,Zcp (by omega)⟩,
    hC.eqd.trans (by
     rw[hr'];refine Znb (by omega) hC.ok (by omega) (by omega) (show 0≠i by omega) (p':=a) (q':=t) (s':=b) (t':=-s) ?_ ?_ ?_ ?_
     ·rw[Int.mul_comm a s];exact hab
     ·rw[Int.mul_neg,Int.mul_comm a t];omega
     ·rw[Int.neg_mul,Int.mul_comm b s];omega
     ·rw[Int.neg_mul_neg,Int.mul_comm b t];omega),by rw[hT];exact g0,by rw[hT];exact Int.dvd_trans gd hdd⟩
   have hTd:T r 0 0<=rd row0 0:=by
    rcases hD with hD|⟨hD1,_⟩
    ·omega
    ·rw[T0,hD1];exact Int.le_refl _
   obtain⟨r2,k1,k2,k3⟩:=ih (i+1) r' (by omega) (by omega) hC' (.inl (by rw[hT];omega))
   refine⟨r2,?_,k2,k3⟩;rw[h1'];simp only[Option.bind_some];rw[e1,f1,e4,Int.toNat_natCast,<-k1,hr'];have gne:¬ g=0:=by omega
   have hs2:∀C,(r.set i C).set (0:Int).toNat (row r 0)=r.set i C:=λ C=>by have:=Zbx (r.set i C) 0;rwa[Zbm (show 0≠i by omega)]at this
   (with_reducible repeat (first|refine go_p ?_|refine go_n ?_|refine go_b ?_|dsimp only))
   simp only[hs2,List.length_set]
   (with_reducible repeat (first|refine go_p ?_|refine go_n ?_|refine go_b ?_|dsimp only))
   rfl
theorem Zks (m2:2<=m) (m12:m<=12) (W0:0<W) (hW:W<=1000) (n0:0<n) (hn:n<=100000) {rs:List (List Int)} {d1:Int}:∀(c k:Nat) (r:List (List Int)) (flag:Bool),k+c=W->1<=k->CI m W n X r->(∀j:Nat,1<=j->j<k->T r 0 (j:Int)=0)->T r 0 0<=d1->((∀j:Nat,1<=j->j<W->T rs 0 (j:Int)=0)->r=rs/\flag=false) ->
  ∃r' flag', Zh.l3 (W:Int) m flag (k:Int) r=Zh.l5 (W:Int) m flag' 1 r' /\ CI m W n X r' /\ (∀j:Nat,1<=j->j<W->T r' 0 (j:Int)=0)/\T r' 0 0<=d1/\((∀j:Nat,1<=j->j<W->T rs 0 (j:Int)=0)->r'=rs/\flag'=false):=by
 intro c
 induction c with
 | zero =>
  intro k r flag hk h1 hC hz hd1 hcl;have:k=W:=by omega
  subst this;refine⟨r,flag,?_,hC,hz,hd1,hcl⟩;rw[Zh.l3_eq]
  ((with_reducible repeat (first|refine go_p ?_|refine go_n ?_|refine go_b ?_|dsimp only));first|done|(with_reducible rfl)|simp (disch:=omega) only[w64])
 | succ c ih =>
  intro k r flag hk h1 hC hz hd1 hcl;have hl:=hC.len;have dp:=hC.pos;have dm:=hC.lt n0 W0;obtain⟨l0,a0⟩:=hC.ok 0 (by omega);have l0' : (row r 0).length=W:=l0;obtain⟨x0,x1⟩:=hC.ok.bd (i:=0) (k:=k) (by omega) (by omega);obtain⟨d,hd⟩:∃d,d=T r 0 0:=⟨_,rfl⟩
  obtain⟨x,hx⟩:∃x,x=T r 0 (k:Int):=⟨_,rfl⟩
  have x0:0<=x:=by rw[hx];exact x0
  have x1:x<m:=by rw[hx];exact x1
  have hs0:r.set (0:Int).toNat (row r 0)=r:=Zbx r 0;rw[Zh.l3_eq,wn (j:=k) (by omega)];simp only[hs0,<-hd,<-hx];rw[<-hd]at dp dm hd1;have hdd:d∣m:=by rw[hd];exact hC.dvd
  by_cases hx0:x=0
  ·
   obtain⟨r', flag', k1,k2⟩:=ih (k+1) r flag (by omega) (by omega) hC (λ j j1 j2=>by
    by_cases e:j=k
    ·rw[e,<-hx];exact hx0
    ·exact hz j j1 (by omega)) (by rw[<-hd];exact hd1) hcl
   refine⟨r', flag', ?_,k2⟩;rw[<-k1]
   ((with_reducible repeat (first|refine go_p ?_|refine go_n ?_|refine go_b ?_|dsimp only));first|done|(with_reducible rfl)|simp (disch:=omega) only[w64])
  ·
   obtain⟨s,t,h1', h2', h3', h4'⟩:=ZiA (a:=d) (b:=x) (by omega) (by omega) x0 (by omega);obtain⟨g,hg⟩:∃g,g=((Int.gcd d x:Nat):Int):=⟨_,rfl⟩
   rw[<-hg]at h1' h2';have gd:g∣d:=by rw[hg];exact Int.gcd_dvd_left ..
   have gx:g∣x:=by rw[hg];exact Int.gcd_dvd_right ..
   have g0:0<g:=by rw[hg];exact_mod_cast Int.gcd_pos_of_ne_zero_left x (by omega)
   have gld:g<=d:=Int.le_of_dvd dp gd;obtain⟨a,b,ha,hb,hab,hda,hxb⟩:=Zld h2' g0 gd gx;obtain⟨e1,e2,e3⟩:=w_div x0 (by omega) g0;obtain⟨f1,f2,f3⟩:=w_div (x:=d) (by omega) (by omega) g0;rw[hxb]at e1 e2 e3;rw[hda]at f1 f2 f3;have gne:¬ g=0:=by omega
   have four:∀F:Bool,Zh.l4 (W:Int) m F (k:Int) d x g s t 0 r=Zh.l3 (W:Int) m F ((k+1:Nat):Int) (r.map (colf m k s t b (-a))):=λ F=>by
    have loop:=up n (λ j=>Zh.l4 (W:Int) m F (k:Int) d x g s t (j:Int) (updR (colf m k s t b (-a)) r j)) (λ j hj=>by
     obtain⟨lj,aj⟩:=hC.ok j (by omega);have ul:=ZeT (colf m k s t b (-a)) r j;have ur:=ZfE (colf m k s t b (-a)) r (j:=j) (by omega);obtain⟨p0,p1⟩:=hC.ok.bd (i:=j) (k:=0) (by omega) W0;obtain⟨q0,q1⟩:=hC.ok.bd (i:=j) (k:=k) (by omega) (by omega);obtain⟨p,hp⟩:∃p,p=rd (row r (j:Int)) ((0:Nat):Int):=⟨_,rfl⟩
     obtain⟨q,hq⟩:∃q,q=rd (row r (j:Int)) (k:Int):=⟨_,rfl⟩
     rw[<-hp]at p0 p1;rw[<-hq]at q0 q1;have tp:T (updR (colf m k s t b (-a)) r j) (j:Int) 0=p:=by rw[Ti,ur,hp]
     have tq:T (updR (colf m k s t b (-a)) r j) (j:Int) (k:Int)=q:=by rw[Tn,ur,hq]
     have b1:=ZdU (x:=s) (B:=100000000000000) (a:=p) (m:=m) (by omega) (by omega) p0 p1 m12 (by omega);have b2:=ZdU (x:=t) (B:=100000000000000) (a:=q) (m:=m) (by omega) (by omega) q0 q1 m12 (by omega);have b3:=ZdU (x:=b) (B:=12) (a:=p) (m:=m) (by omega) (by omega) p0 p1 m12 (by omega);have b4:=ZdU (x:=a) (B:=12) (a:=q) (m:=m) (by omega) (by omega) q0 q1 m12 (by omega);have m1:=ModW (a:=s*p+t*q) (m:=m) (by omega) (by omega) (by omega) (by omega);have m2':=ModW (a:=b*p-a*q) (m:=m) (by omega) (by omega) (by omega) (by omega);have w1:wrapI (wrapI (s*p)+wrapI (t*q))=s*p+t*q:=by rw[w64 (x:=s*p) (by omega) (by omega),w64 (x:=t*q) (by omega) (by omega),w64 (by omega) (by omega)]
     have w2:wrapI (wrapI (b*p)-wrapI (a*q))=b*p-a*q:=by rw[w64 (x:=b*p) (by omega) (by omega),w64 (x:=a*q) (by omega) (by omega),w64 (by omega) (by omega)]
     have hcf:((row r (j:Int)).set (0:Int).toNat ((s*p+t*q)%m)).set k ((b*p-a*q)%m)=colf m k s t b (-a) (row r (j:Int)):=by
      rw[colf,Int.neg_mul,<-hq];rw[show rd (row r (j:Int)) 0=p from hp.symm]
      rfl
     have sl:((row r (j:Int)).set (0:Int).toNat ((s*p+t*q)%m)).length=W:=by rw[List.length_set];exact lj
     rw[Zh.l4_eq,wn (j:=j) (by omega),tp,tq,ur,e1,f1,w1,w2,<-ZeU _ _ (show j<r.length by omega),Int.toNat_natCast,Int.toNat_natCast,<-hcf]
     ((with_reducible repeat (first|refine go_p ?_|refine go_n ?_|refine go_b ?_|dsimp only));first|done|(with_reducible rfl)|simp (disch:=omega) only[w64]))
    rw[show(updR (colf m k s t b (-a)) r n)=r.map (colf m k s t b (-a))by rw[<-hl];exact ZfD _ _,ZeV]at loop
    refine Eq.trans loop ?_;have ml:(r.map (colf m k s t b (-a))).length=n:=by rw[List.length_map];exact hl
    rw[Zh.l4_eq,wn (j:=k) (by omega)]
    ((with_reducible repeat (first|refine go_p ?_|refine go_n ?_|refine go_b ?_|dsimp only));first|done|(with_reducible rfl)|simp (disch:=omega) only[w64])
   obtain⟨r', hr'⟩:∃r', r'=r.map (colf m k s t b (-a)):=⟨_,rfl⟩
   have row0:row r' ((0:Nat):Int)=colf m k s t b (-a) (row r ((0:Nat):Int)):=by rw[hr'];exact Zb0 _ _ (by omega)
   have tz:∀j:Nat,T r' 0 (j:Int)=if j=0 then g else if j=k then 0 else T r 0 (j:Int):=λ j=>by
    show rd (row r' ((0:Nat):Int)) (j:Int)=_;rw[row0,Zlj (by omega) (by omega)];rw[show rd (row r ((0:Nat):Int)) 0=d from hd.symm,show rd (row r ((0:Nat):Int)) (k:Int)=x from hx.symm]
    split
    ·rw[h2'];exact Int.emod_eq_of_lt (by omega) (by omega)
    ·
     split
     ·
      rw[ha,hb,Int.neg_mul,Int.mul_left_comm b g a,Int.mul_left_comm a g b,Int.mul_comm b a,show ∀z:Int,z + -z=0 from λ z=>by omega]
      rfl
     ·rfl
   have hT:T r' 0 0=g:=tz 0;have hC' : CI m W n X r':=⟨by rw[hr', List.length_map];exact hl,by rw[hr'];exact hC.ok.colf (by omega) _ _ _ _ _,hC.eqd.trans (by
     rw[hr'];refine ZmG (by omega) hC.ok (by omega) (by omega) (p':=a) (q':=t) (s':=b) (t':=-s) ?_ ?_ ?_ ?_ ?_ ?_ ?_ ?_
     ·rw[Int.mul_comm a s];exact hab
     ·rw[Int.mul_neg,Int.mul_comm a t];omega
     ·rw[Int.neg_mul,Int.mul_comm b s];omega
     ·rw[Int.neg_mul_neg,Int.mul_comm b t];omega
     ·exact hab
     ·rw[Int.mul_neg,Int.mul_comm s t];omega
     ·rw[Int.neg_mul,Int.mul_comm b a];omega
     ·rw[Int.neg_mul_neg,Int.mul_comm b t,Int.mul_comm a s];omega),by rw[hT];exact g0,by rw[hT];exact Int.dvd_trans gd hdd⟩
   have hF:∀F:Bool,∃r2 flag', Zh.l4 (W:Int) m F (k:Int) d x g s t 0 r=Zh.l5 (W:Int) m flag' 1 r2/\CI m W n X r2/\(∀j:Nat,1<=j->j<W->T r2 0 (j:Int)=0)/\T r2 0 0<=d1/\((∀j:Nat,1<=j->j<W->T rs 0 (j:Int)=0)->r2=rs/\flag'=false):=λ F=>by
    obtain⟨r2,flag', k1,k2⟩:=ih (k+1) r' F (by omega) (by omega) hC' (λ j j1 j2=>by
     rw[tz]
     by_cases e:j=k
     ·rw[if_neg (by omega),if_pos e]
     ·rw[if_neg (by omega),if_neg e];exact hz j j1 (by omega)) (by rw[hT];omega) (λ hcl'=>by
     exfalso
     obtain⟨e,_⟩:=hcl hcl';exact hx0 (by rw[hx,e];exact hcl' k h1 (by omega)))
    exact⟨r2,flag', by rw[four F,<-hr', k1],k2⟩
   cases flag with
   | true =>
    obtain⟨r2,flag', k1,k2⟩:=hF true;refine⟨r2,flag', ?_,k2⟩;rw[<-k1];have tt:true=true:=rfl
    ((with_reducible repeat (first|refine go_p ?_|refine go_n ?_|refine go_b ?_|dsimp only));first|done|(with_reducible rfl)|simp (disch:=omega) only[w64])
   | false =>
    obtain⟨r2,flag', k1,k2⟩:=hF (!decide (Int.tmod x d=0));refine⟨r2,flag', ?_,k2⟩;rw[<-k1];have ff:¬ false=true:=Bool.false_ne_true;have dne:¬ d=0:=by omega
    ((with_reducible repeat (first|refine go_p ?_|refine go_n ?_|refine go_b ?_|dsimp only));first|done|(with_reducible rfl)|simp (disch:=omega) only[w64])
theorem Zkt (hn:n<=100000) (W0:0<W) {r:List (List Int)} (hC:CI m W n X r):∀(c i:Nat) (flag:Bool),i+c=n->1<=i->∃flag', Zh.l5 (W:Int) m flag (i:Int) r=Zh.l1 (W:Int) m flag' r/\(flag'=false->flag=false/\∀k:Nat,i<=k->k<n->T r (k:Int) 0=0)/\(flag=false->(∀k:Nat,i<=k->k<n->T r (k:Int) 0=0)->flag'=false):=by
 intro c;have hl:=hC.len
 induction c with
 | zero =>
  intro i flag hi h1;refine⟨flag,?_,λ h=>⟨h,λ k k1 k2=>by omega⟩,λ h _=>h⟩;rw[Zh.l5_eq]
  ((with_reducible repeat (first|refine go_p ?_|refine go_n ?_|refine go_b ?_|dsimp only));first|done|(with_reducible rfl)|simp (disch:=omega) only[w64])
 | succ c ih =>
  intro i flag hi h1;obtain⟨li,ai⟩:=hC.ok i (by omega);have hsi:r.set (i:Int).toNat (row r (i:Int))=r:=by rw[Int.toNat_natCast];exact Zbx r i
  rw[Zh.l5_eq,wn (j:=i) (by omega)];simp only[hsi]
  cases flag with
  | true =>
   obtain⟨f,k1,k2,k3⟩:=ih (i+1) true (by omega) (by omega);refine⟨f,?_,λ h=>?_,λ h=>by cases h⟩
   ·
    rw[<-k1];have tt:true=true:=rfl
    ((with_reducible repeat (first|refine go_p ?_|refine go_n ?_|refine go_b ?_|dsimp only));first|done|(with_reducible rfl)|simp (disch:=omega) only[w64])
   ·cases(k2 h).1
  | false =>
   obtain⟨f,k1,k2,k3⟩:=ih (i+1) (!decide (T r (i:Int) 0=0)) (by omega) (by omega);have ff:¬ false=true:=Bool.false_ne_true;refine⟨f,?_,λ h=>?_,λ _ h=>?_⟩
   ·
    rw[<-k1]
    ((with_reducible repeat (first|refine go_p ?_|refine go_n ?_|refine go_b ?_|dsimp only));first|done|(with_reducible rfl)|simp (disch:=omega) only[w64])
   ·
    obtain⟨g1,g2⟩:=k2 h;refine⟨rfl,λ k q1 q2=>?_⟩
    by_cases e:k=i
    ·rw[e];simpa using g1
    ·exact g2 k (by omega) q2
   ·
    refine k3 ?_ λ k q1 q2=>h k (by omega) q2
    rw[h i (Nat.le_refl _) (by omega)]
    rfl
theorem Zku (m2:2<=m) (m12:m<=12) (W0:0<W) (hW:W<=1000) (n0:0<n) (hn:n<=100000):∀(N:Nat) (r:List (List Int)),CI m W n X r->((∀j:Nat,1<=j->j<W->T r 0 (j:Int)=0)/\(T r 0 0).toNat*2<=N)\/(T r 0 0).toNat*2+1<=N ->
  ∃Y,Zh.l1 (W:Int) m true r=some Y/\CI m W n X Y/\(∀j:Nat,1<=j->j<W->T Y 0 (j:Int)=0)/\∀k:Nat,1<=k->k<n->T Y (k:Int) 0=0:=by
 intro N
 induction N with
 | zero =>
  intro r hC h;have:=hC.pos;rcases h with ⟨_,h⟩|h<;>omega
 | succ N ih =>
  intro r hC hN;have tt:true=true:=rfl;obtain⟨r1,a1,a2,a3⟩:=Zkv m2 m12 W0 hW hn (row0:=fst0 r) (n-1) 1 r (by omega) (Nat.le_refl _) hC (.inr ⟨rfl,λ k k1 k2=>by omega⟩);have a1:Zh.l2 (W:Int) m false 1 r=Zh.l3 (W:Int) m false 1 r1:=a1;obtain⟨r2,f2,b1,b2,b3,b4,b5⟩:=Zks m2 m12 W0 hW n0 hn (rs:=r1) (d1:=T r1 0 0) (W-1) 1 r1 false (by omega) (Nat.le_refl _) a2 (λ j j1 j2=>by omega) (Int.le_refl _) (λ _=>⟨rfl,rfl⟩);have b1:Zh.l3 (W:Int) m false 1 r1=Zh.l5 (W:Int) m f2 1 r2:=b1;obtain⟨f3,c1,c2,c3⟩:=Zkt hn W0 b2 (n-1) 1 f2 (by omega) (Nat.le_refl _);have c1:Zh.l5 (W:Int) m f2 1 r2=Zh.l1 (W:Int) m f3 r2:=c1;have start:Zh.l1 (W:Int) m true r=Zh.l1 (W:Int) m f3 r2:=by rw[Zh.l1_eq,if_pos tt,a1,b1,c1]
  cases f3 with
  | false =>
   refine⟨r2,?_,b2,b3,λ k k1 k2=>(c2 rfl).2 k k1 k2⟩;rw[start,Zh.l1_eq]
   rfl
  | true =>
   rw[start];refine ih r2 b2 (.inl ⟨b3,?_⟩);have p2:=b2.pos;have p1:=a2.pos;rcases a3 with a3|⟨a3,a4⟩
   ·have a3:T r1 0 0<T r 0 0:=a3;rcases hN with ⟨_,hN⟩|hN<;>omega
   ·
    have e:T r1 0 0=T r 0 0:=by rw[T0,T0,a3]
    by_cases hcl:∀j:Nat,1<=j->j<W->T r 0 (j:Int)=0
    ·
     exfalso
     have h1:∀j:Nat,1<=j->j<W->T r1 0 (j:Int)=0:=λ j j1 j2=>by rw[T0,a3];exact hcl j j1 j2
     obtain⟨e2,e3⟩:=b5 h1;have:=c3 e3 (λ k k1 k2=>by rw[e2];exact a4 k k1 k2)
     cases this
    ·
     rcases hN with ⟨hN,_⟩|hN
     ·exact absurd hN hcl
     ·omega
end
def sw (c:Nat) (x:List Int):List Int:=(x.set 0 (rd x (c:Int))).set c (rd x 0)
theorem Zpf (c:Nat) (x:List Int):(sw c x).length=x.length:=by rw[sw,List.length_set,List.length_set]
theorem sw_in {m:Int} {c:Nat} {x:List Int} (h:AllIn m x) (h0:0<x.length) (hc:c<x.length):AllIn m (sw c x):=ZbO λ z hz=>by
 rcases List.mem_or_eq_of_mem_set hz with k|k
 ·
  rcases List.mem_or_eq_of_mem_set k with k|k
  ·exact h.mem k
  ·rw[k];exact h c (by omega) (by omega)
 ·rw[k];exact h 0 (by omega) (by omega)
theorem sw_rd {c:Nat} {x:List Int} (h0:0<x.length) (hc:c<x.length) (i:Nat):rd (sw c x) (i:Int)=if i=c then rd x 0 else if i=0 then rd x (c:Int)else rd x (i:Int):=by
 unfold sw
 by_cases e:i=c
 ·subst e;rw[if_pos rfl,Zbw (by rw[List.length_set];exact hc)]
 ·
  rw[if_neg e,ZbE e]
  by_cases e2:i=0
  ·subst e2;rw[if_pos rfl,Zbw h0]
  ·rw[if_neg e2,ZbE e2]
theorem Zpe {m:Int} (m0:0<m) {W:Nat} {X:List (List Int)} (h:Rok m W X) {c:Nat} (hc:c<W):Eqd m W (Mx m W X) (Mx m W (X.map (sw c))):=by
 by_cases c0:c=0
 ·
  subst c0;refine Mx_same' (List.length_map ..) (λ i hi=>?_) λ i hi=>?_
  ·
   have:=ZbR (m:=m) (W:=W) (r:=X.map (sw 0)) (i:=i) (by rw[List.length_map];exact hi)
   rw[Zb0 _ _ hi]at this;refine this.alike λ k hk=>ZaG ?_
   show rd (sw 0 _) (k:Int)=rd _ (k:Int);rw[sw_rd (by have:=(h i hi).1;omega) (by have:=(h i hi).1;omega)]
   split
   ·rename_i e;rw[e];rfl
   ·rfl
  ·
   rw[Zb0 _ _ hi];refine(ZbR (m:=m) (W:=W) hi).alike λ k hk=>ZaG ?_
   show rd _ (k:Int)=rd (sw 0 _) (k:Int);rw[sw_rd (by have:=(h i hi).1;omega) (by have:=(h i hi).1;omega)]
   split
   ·rename_i e;rw[e];rfl
   ·rfl
 ·
  refine Zk1 m0 (ZeM (r:=W) (a:=0) (b:=c) (p:=0) (q:=1) (s:=1) (t:=0) (p':=0) (q':=1) (s':=1) (t':=0) (by omega) (by omega) hc rfl rfl rfl rfl rfl rfl rfl rfl) (List.length_map ..) λ n hn i hi=>?_
  rw[Zb0 _ _ hn];refine ZaG ?_;show pairT 0 c 0 1 1 0 (V (row X (n:Int))) i=rd (sw c (row X (n:Int))) (i:Int);rw[sw_rd (by have:=(h n hn).1;omega) (by have:=(h n hn).1;omega),pairT]
  by_cases e:i=0
  ·rw[if_pos e,if_neg (by omega),if_pos e];show 0*rd _ _+1*rd _ (c:Int)=_;omega
  ·
   rw[if_neg e]
   by_cases e2:i=c
   ·rw[if_pos e2,if_pos e2];show 1*rd _ ((0:Nat):Int)+0*rd _ _=rd _ 0;rw[show rd (row X (n:Int)) 0=rd (row X (n:Int)) ((0:Nat):Int)from rfl];omega
   ·
    rw[if_neg e2,if_neg e2,if_neg e]
    rfl
theorem ZoL {m:Int} (m2:2<=m) (m12:m<=12) {W:Nat} (W0:0<W) (hW:W<=1000) {X:List (List Int)} (hX:Rok m W X) (hL:X.length<=100000) {at_ c:Nat} (ha:at_<X.length) (hc:c<W) (hne:¬ rd (row X (at_:Int)) (c:Int)=0) :
  ∃Y,Zh.f X (at_:Int) (c:Int) (W:Int) m=some Y/\CI m W X.length X Y/\(∀j:Nat,1<=j->j<W->T Y 0 (j:Int)=0)/\∀k:Nat,1<=k->k<X.length->T Y (k:Int) 0=0:=by
 have t0:(0:Int).toNat=0:=rfl;have loop:=up X.length (λ j=>Zh.l0 X (at_:Int) (c:Int) (W:Int) m (j:Int) ((X.take j).map (sw c))) (λ j hj=>by
  obtain⟨lj,aj⟩:=hX j hj;have hO:=Own_ (row X (j:Int)) (by omega);have hl1:((row X (j:Int)).set (0:Int).toNat (T X (j:Int) (c:Int))).length=W:=by rw[List.length_set];exact lj
  have hs:((row X (j:Int)).set (0:Int).toNat (T X (j:Int) (c:Int))).set c (T X (j:Int) 0)=sw c (row X (j:Int)):=rfl;have ht:(X.take (j+1)).map (sw c)=(X.take j).map (sw c)++[sw c (row X (j:Int))]:=by rw[List.take_add_one,List.getElem?_eq_getElem hj,List.map_append,Zbz hj];rfl
  have l1:([sw c (row X (j:Int))]:List (List Int)).length=1:=rfl;have l2:((X.take j).map (sw c)).length=j:=by simp;omega
  rw[Zh.l0_eq,wn (j:=j) (by omega),ht,hO,Option.bind_some,Int.toNat_natCast,hs]
  ((with_reducible repeat (first|refine go_p ?_|refine go_n ?_|refine go_b ?_|dsimp only));first|done|(with_reducible rfl)|simp (disch:=omega) only[w64]))
 rw[List.take_zero,List.map_nil,List.take_length]at loop;obtain⟨r,hr⟩:∃r,r=X.map (sw c):=⟨_,rfl⟩
 have rl:r.length=X.length:=by rw[hr,List.length_map]
 have hrow:∀j:Nat,j<X.length->row r (j:Int)=sw c (row X (j:Int)):=λ j hj=>by rw[hr];exact Zb0 _ _ hj
 have rok:Rok m W r:=λ i hi=>by obtain⟨a1,a2⟩:=hX i (by omega);rw[hrow i (by omega)];exact⟨by rw[Zpf];exact a1,sw_in a2 (by omega) (by omega)⟩
 have req:Eqd m W (Mx m W X) (Mx m W r):=by rw[hr];exact Zpe (by omega) hX hc
 obtain⟨la,aa⟩:=rok at_ (by omega);have h0:rd (row r (at_:Int)) ((0:Nat):Int)=rd (row X (at_:Int)) (c:Int):=by
  rw[hrow at_ ha,sw_rd (by have:=(hX at_ ha).1;omega) (by have:=(hX at_ ha).1;omega)]
  split
  ·rename_i e;rw[<-e];rfl
  ·rw[if_pos rfl]
 obtain⟨u,⟨u1,u2⟩,hu,hux,hU⟩:=Unit_ m2 m12 aa (by omega) (j:=0) (by omega) (by rw[h0];exact hne)
 have hU:Zao.f (row r (at_:Int)) 0 m=some (mix m u (row r (at_:Int)) 0 (row r (at_:Int))):=hU;obtain⟨v,hv⟩:=ZhF m2 m12 (by omega) u2 hu;have hsa:r.set (at_:Int).toNat (row r (at_:Int))=r:=by rw[Int.toNat_natCast];exact Zbx r at_
 obtain⟨x0,x1⟩:=rok.bd (i:=at_) (k:=0) (by omega) W0;obtain⟨x,hx⟩:∃x,x=rd (row r (at_:Int)) ((0:Nat):Int):=⟨_,rfl⟩
 rw[<-hx]at x0 x1 hux;have xne:¬ x=0:=by rw[hx,h0];exact hne
 obtain⟨g,hg⟩:∃g,g=((Int.gcd x m:Nat):Int):=⟨_,rfl⟩
 rw[<-hg]at hux;have g0:0<g:=by rw[hg];exact_mod_cast Int.gcd_pos_of_ne_zero_left m xne
 have gx:g<=x:=by rw[hg];exact Int.le_of_dvd (by omega) (Int.gcd_dvd_left ..)
 have gm:g∣m:=by rw[hg];exact Int.gcd_dvd_right ..
 have hT:∀r' : List (List Int),row r' 0=mix m u (row r (at_:Int)) 0 (row r (at_:Int))->T r' 0 0=g:=λ r' h=>by show rd (row r' 0) ((0:Nat):Int)=g;rw[h,ZbT (by omega),<-hx,Int.zero_mul,Int.add_zero,Zgw hux];exact Int.emod_eq_of_lt (by omega) (by omega)
 have main:∃r', Zh.f X (at_:Int) (c:Int) (W:Int) m=Zh.l1 (W:Int) m true r' /\ CI m W X.length X r':=by
  rw[Zh.f_eq];have loop:Zh.l0 X (at_:Int) (c:Int) (W:Int) m 0 []=Zh.l0 X (at_:Int) (c:Int) (W:Int) m (X.length:Int) r:=by rw[hr];exact loop
  rw[loop,Zh.l0_eq]
  by_cases a0:at_=0
  ·
   subst a0;refine⟨r.set 0 (mix m u (row r ((0:Nat):Int)) 0 (row r ((0:Nat):Int))),?_,?_⟩
   ·
    simp only[hsa]
    (with_reducible repeat (first|refine go_p ?_|refine go_n ?_|refine go_b ?_|dsimp only))
    rfl
   ·have e:=hT (r.set 0 (mix m u (row r ((0:Nat):Int)) 0 (row r ((0:Nat):Int)))) (ZaX (j:=0) (by omega));exact⟨by rw[List.length_set];exact rl,rok.set ⟨by rw[Zbl];exact la,Zcp (by omega)⟩,req.trans (Zhw (by omega) rok (by omega) hv _),by rw[e];exact g0,by rw[e];exact gm⟩
  ·
   refine⟨(r.set at_ (row r ((0:Nat):Int))).set 0 (mix m u (row r (at_:Int)) 0 (row r (at_:Int))),?_,?_⟩
   ·
    simp only[hsa]
    (with_reducible repeat (first|refine go_p ?_|refine go_n ?_|refine go_b ?_|dsimp only))
    rfl
   ·
    have e:=hT ((r.set at_ (row r ((0:Nat):Int))).set 0 (mix m u (row r (at_:Int)) 0 (row r (at_:Int)))) (ZaX (j:=0) (by rw[List.length_set];omega))
    have k1:=Zj9 (m:=m) (W:=W) (r:=r) (i:=at_) (j:=0) (by omega) (by omega);obtain⟨r1,hr1⟩:∃r1,r1=(r.set at_ (row r ((0:Nat):Int))).set 0 (row r (at_:Int)):=⟨_,rfl⟩
    have r10:row r1 ((0:Nat):Int)=row r (at_:Int):=by rw[hr1];exact ZaX (by rw[List.length_set];omega)
    have ok1:Rok m W r1:=by rw[hr1];exact(rok.set (rok 0 (by omega))).set ⟨la,aa⟩
    have k2:=Zhw (m:=m) (by omega) ok1 (i:=0) (by rw[hr1,List.length_set,List.length_set];omega) hv (row r (at_:Int))
    rw[r10]at k2;rw[<-hr1]at k1;have e2:r1.set 0 (mix m u (row r (at_:Int)) 0 (row r (at_:Int)))=(r.set at_ (row r ((0:Nat):Int))).set 0 (mix m u (row r (at_:Int)) 0 (row r (at_:Int))):=by rw[hr1,List.set_set]
    rw[e2]at k2;exact⟨by rw[List.length_set,List.length_set];exact rl,(rok.set (rok 0 (by omega))).set ⟨by rw[Zbl];exact la,Zcp (by omega)⟩,req.trans (k1.trans k2),by rw[e];exact g0,by rw[e];exact gm⟩
 obtain⟨r', k1,k2⟩:=main;obtain⟨Y,b1,b2,b3,b4⟩:=Zku m2 m12 W0 hW (by omega) hL _ r' k2 (.inr (Nat.le_refl _));exact⟨Y,by rw[k1,b1],b2,b3,b4⟩
def Fnd (m:Int) (W:Nat) (X:List (List Int)) (Z:Nat->Nat->Prop) (a c best:Int):Prop:=(a = -1/\best=m/\∀i k:Nat,Z i k->rd (row X (i:Int)) (k:Int)=0)\/∃A C:Nat,a=(A:Int)/\c=(C:Int)/\A<X.length/\C<W/\¬ rd (row X (A:Int)) (C:Int)=0
theorem ZnR {m:Int} (m2:2<=m) (m12:m<=12):∀(W:Nat) (X:List (List Int)) (out:List Int),W<=1000->Rok m W X->X.length<=100000->out.length+W<=100000 ->
  ∃ns,Zl.l0 m X (W:Int) out=some (out++ns)/\ns.length=W/\(∀n∈ns,0<n/\n∣m)/\Dg m W (Mx m W X) ns:=by
 intro W
 induction W with
 | zero =>
  intro X out hW hX hL ho;refine⟨[],?_,rfl,λ n hn=>(by cases hn),.nil (by omega) Sp.sub⟩;rw[Zl.l0_eq,List.append_nil]
  ((with_reducible repeat (first|refine go_p ?_|refine go_n ?_|refine go_b ?_|dsimp only));first|done|(with_reducible rfl)|simp (disch:=omega) only[w64])
 | succ W ih =>
  intro X out hW hX hL ho;have inner:∀(c k i:Nat) (a cc best:Int),k+c=W+1->i<X.length->Fnd m (W+1) X (λ i' k'=>i'<i/\k'<W+1\/i'=i/\k'<k) a cc best->∃a' cc' best', Zl.l2 m X ((W+1:Nat):Int) a cc best (i:Int) (k:Int) out=Zl.l1 m X ((W+1:Nat):Int) a' cc' best' ((i+1:Nat):Int) out/\Fnd m (W+1) X (λ i' k'=>i'<i+1/\k'<W+1) a' cc' best':=by
   intro c
   induction c with
   | zero =>
    intro k i a cc best hk hi hF;refine⟨a,cc,best,?_,?_⟩
    ·
     rw[Zl.l2_eq,wn (j:=i) (by omega)]
     ((with_reducible repeat (first|refine go_p ?_|refine go_n ?_|refine go_b ?_|dsimp only));first|done|(with_reducible rfl)|simp (disch:=omega) only[w64])
    ·
     rcases hF with ⟨h1,h2,h3⟩|hF
     ·exact .inl ⟨h1,h2,λ i' k' h=>h3 i' k' (by omega)⟩
     ·exact .inr hF
   | succ c ihc =>
    intro k i a cc best hk hi hF;obtain⟨li,ai⟩:=hX i hi;obtain⟨x0,x1⟩:=hX.bd (i:=i) (k:=k) hi (by omega);obtain⟨x,hx⟩:∃x,x=T X (i:Int) (k:Int):=⟨_,rfl⟩
    have x0:0<=x:=by rw[hx];exact x0
    have x1:x<m:=by rw[hx];exact x1
    have hG:=Gcd_ (a:=x) (b:=m) (by omega) (by omega) (by omega) (by omega);have step:∀a cc best,Fnd m (W+1) X (λ i' k'=>i'<i/\k'<W+1\/i'=i/\k'<k+1) a cc best->∃a' cc' best', Zl.l2 m X ((W+1:Nat):Int) a cc best (i:Int) ((k+1:Nat):Int) out=Zl.l1 m X ((W+1:Nat):Int) a' cc' best' ((i+1:Nat):Int) out/\Fnd m (W+1) X (λ i' k'=>i'<i+1/\k'<W+1) a' cc' best':=λ a cc best h=>ihc (k+1) i a cc best (by omega) hi h
    rw[Zl.l2_eq,wn (j:=k) (by omega),<-hx]
    by_cases hx0:x=0
    ·
     obtain ⟨a', cc', best', k1,k2⟩:=step a cc best (by
      rcases hF with ⟨h1,h2,h3⟩|hF
      ·
       refine .inl ⟨h1,h2,λ i' k' h=>?_⟩
       by_cases e:i'=i/\k'=k
       ·rw[e.1,e.2,<-Tn,<-hx];exact hx0
       ·exact h3 i' k' (by omega)
      ·exact .inr hF)
     refine⟨a', cc', best', ?_,k2⟩;rw[<-k1]
     ((with_reducible repeat (first|refine go_p ?_|refine go_n ?_|refine go_b ?_|dsimp only));first|done|(with_reducible rfl)|simp (disch:=omega) only[w64])
    ·
     obtain⟨g,hg⟩:∃g,g=((Int.gcd x m:Nat):Int):=⟨_,rfl⟩
     rw[<-hg]at hG
     by_cases hb:g<best
     ·
      obtain⟨a', cc', best', k1,k2⟩:=step (i:Int) (k:Int) g (.inr ⟨i,k,rfl,rfl,hi,by omega,by rw[<-Tn,<-hx];exact hx0⟩)
      refine⟨a', cc', best', ?_,k2⟩;rw[<-k1]
      ((with_reducible repeat (first|refine go_p ?_|refine go_n ?_|refine go_b ?_|dsimp only));first|done|(with_reducible rfl)|simp (disch:=omega) only[w64])
     ·
      obtain⟨a', cc', best', k1,k2⟩:=step a cc best (by
       rcases hF with ⟨h1,h2,h3⟩|hF
       ·
        exfalso
        have:g<=x:=by rw[hg];exact Int.le_of_dvd (by omega) (Int.gcd_dvd_left ..)
        omega
       ·exact .inr hF)
      refine⟨a', cc', best', ?_,k2⟩;rw[<-k1]
      ((with_reducible repeat (first|refine go_p ?_|refine go_n ?_|refine go_b ?_|dsimp only));first|done|(with_reducible rfl)|simp (disch:=omega) only[w64])
  have outer:∀(c i:Nat) (a cc best:Int),i+c=X.length->Fnd m (W+1) X (λ i' k'=>i'<i/\k'<W+1) a cc best->∃a' cc' best', Zl.l1 m X ((W+1:Nat):Int) a cc best (i:Int) out=Zl.l1 m X ((W+1:Nat):Int) a' cc' best' (X.length:Int) out/\Fnd m (W+1) X (λ i' k'=>i'<X.length/\k'<W+1) a' cc' best':=by
   intro c
   induction c with
   | zero =>
    intro i a cc best hi hF;have:i=X.length:=by omega
    subst this;exact⟨a,cc,best,rfl,hF⟩
   | succ c ihc =>
    intro i a cc best hi hF;obtain⟨a1,c1,b1,k1,k2⟩:=inner (W+1) 0 i a cc best (by omega) (by omega) (by
     rcases hF with ⟨h1,h2,h3⟩|hF
     ·exact .inl ⟨h1,h2,λ i' k' h=>h3 i' k' (by omega)⟩
     ·exact .inr hF)
    have k1:Zl.l2 m X ((W+1:Nat):Int) a cc best (i:Int) 0 out=_:=k1;obtain⟨a2,c2,b2,k3,k4⟩:=ihc (i+1) a1 c1 b1 (by omega) k2;refine⟨a2,c2,b2,?_,k4⟩;rw[<-k3,<-k1,Zl.l1_eq]
    ((with_reducible repeat (first|refine go_p ?_|refine go_n ?_|refine go_b ?_|dsimp only));first|done|(with_reducible rfl)|simp (disch:=omega) only[w64])
  obtain⟨a,cc,best,k1,k2⟩:=outer X.length 0 (-1) 0 m (by omega) (.inl ⟨rfl,rfl,λ i' k' h=>by omega⟩);have k1:Zl.l1 m X ((W+1:Nat):Int) (-1) 0 m 0 out=_:=k1;have start:Zl.l0 m X ((W+1:Nat):Int) out=Zl.l1 m X ((W+1:Nat):Int) a cc best (X.length:Int) out:=by
   rw[Zl.l0_eq,k1]
   ((with_reducible repeat (first|refine go_p ?_|refine go_n ?_|refine go_b ?_|dsimp only));first|done|(with_reducible rfl)|simp (disch:=omega) only[w64])
  rw[start,Zl.l1_eq];rcases k2 with ⟨h1,h2,h3⟩|⟨A,C,h1,h2,h3,h4,h5⟩
  ·
   subst h1;have fill:∀(c:Nat) (o:List Int),o.length+c<=100000->Zl.l3 m (c:Int) o=some (o++List.replicate c m):=by
    intro c
    induction c with
    | zero =>
     intro o _;rw[Zl.l3_eq,List.replicate_zero,List.append_nil]
     ((with_reducible repeat (first|refine go_p ?_|refine go_n ?_|refine go_b ?_|dsimp only));first|done|(with_reducible rfl)|simp (disch:=omega) only[w64])
    | succ c ihc =>
     intro o ho;have l1:([m]:List Int).length=1:=rfl;have w:wrapI (((c+1:Nat):Int)-1)=(c:Int):=by rw[w64 (by omega) (by omega)];omega
     have:=ihc (o++[m]) (by rw[List.length_append,l1];omega)
     rw[Zl.l3_eq,w,this,List.append_assoc,List.replicate_succ,List.singleton_append]
     ((with_reducible repeat (first|refine go_p ?_|refine go_n ?_|refine go_b ?_|dsimp only));first|done|(with_reducible rfl)|simp (disch:=omega) only[w64])
   refine⟨List.replicate (W+1) m,?_,List.length_replicate,λ n hn=>?_,?_⟩
   ·
    rw[fill (W+1) out (by omega)]
    ((with_reducible repeat (first|refine go_p ?_|refine go_n ?_|refine go_b ?_|dsimp only));first|done|(with_reducible rfl)|simp (disch:=omega) only[w64])
   ·rw[List.eq_of_mem_replicate hn];exact⟨by omega,Int.dvd_refl m⟩
   ·
    rw[show Mx m (W+1) X=λ x=>∀i,i<W+1->m∣x i from funext λ x=>propext (ZnP (λ r hr i hi=>by obtain⟨k,q0,q1,rfl⟩:=Zds hr;obtain⟨n,rfl⟩:=Int.eq_ofNat_of_zero_le q0;exact h3 n i ⟨by omega,hi⟩) x)]
    exact Dg.zero (by omega) (W+1)
  ·
   subst h1;subst h2
   obtain⟨Y,y1,y2,y3,y4⟩:=ZoL m2 m12 (W:=W+1) (by omega) hW hX hL h3 h4 h5;have yl:=y2.len;obtain⟨yl0,ya0⟩:=y2.ok 0 (by omega);have yl0' : (row Y 0).length=W+1:=yl0;have lone:([T Y 0 0]:List Int).length=1:=rfl;obtain⟨F,hF⟩:∃F,F=(Y.drop 1).map λ r=>r.drop 1:=⟨_,rfl⟩
   have Fl:F.length=X.length-1:=by rw[hF,List.length_map,List.length_drop,yl]
   have Frow:∀i:Nat,i<F.length->row F (i:Int)=(row Y ((i+1:Nat):Int)).drop 1:=λ i hi=>by
    rw[Zbz hi,Zbz (by omega)];simp only[hF,List.getElem_map,List.getElem_drop]
    congr 2
    omega
   have loop:=up (X.length-1) (λ j=>Zl.l4 m Y ((W+1:Nat):Int) ((1+j:Nat):Int) (out++[T Y 0 0]) (F.take j)) (λ j hj=>by
    obtain⟨lj,aj⟩:=y2.ok (1+j) (by omega);have e:F.take (j+1)=F.take j++[(row Y ((1+j:Nat):Int)).drop (1:Int).toNat]:=by rw[List.take_add_one,List.getElem?_eq_getElem (by omega),<-Zbz (by omega),Frow j (by omega),Nat.add_comm 1 j];rfl
    have l1:([(row Y ((1+j:Nat):Int)).drop (1:Int).toNat]:List (List Int)).length=1:=rfl;have l2:(F.take j).length=j:=by rw[List.length_take];omega
    rw[Zl.l4_eq,wn (j:=1+j) (by omega),e,show 1+(j+1)=1+j+1 from rfl]
    ((with_reducible repeat (first|refine go_p ?_|refine go_n ?_|refine go_b ?_|dsimp only));first|done|(with_reducible rfl)|simp (disch:=omega) only[w64]))
   rw[show F.take (X.length-1)=F by rw[<-Fl,List.take_length],show 1+(X.length-1)=X.length by omega]at loop;have loop:Zl.l4 m Y ((W+1:Nat):Int) 1 (out++[T Y 0 0]) []=_:=loop;have Fok:Rok m W F:=λ i hi=>by obtain⟨b1,b2⟩:=y2.ok (i+1) (by omega);rw[Frow i hi];exact⟨by rw[List.length_drop,b1];omega,b2.drop 1⟩
   obtain⟨ns,n1,n2,n3,n4⟩:=ih F (out++[T Y 0 0]) (by omega) Fok (by omega) (by rw[List.length_append,lone];omega)
   have w:wrapI (((W+1:Nat):Int)-1)=(W:Int):=by rw[w64 (by omega) (by omega)];omega
   refine⟨T Y 0 0 :: ns,?_,by rw[List.length_cons,n2],λ n hn=>?_,?_⟩
   ·
    have fin:Zl.l4 m Y ((W+1:Nat):Int) (X.length:Int) (out++[T Y 0 0]) F=some (out++T Y 0 0 :: ns):=by
     rw[Zl.l4_eq,w,n1,List.append_assoc,List.singleton_append]
     ((with_reducible repeat (first|refine go_p ?_|refine go_n ?_|refine go_b ?_|dsimp only));first|done|(with_reducible rfl)|simp (disch:=omega) only[w64])
    (with_reducible repeat (first|refine go_p ?_|refine go_n ?_|refine go_b ?_|dsimp only))
    rw[loop,fin]
   ·
    rcases List.mem_cons.1 hn with rfl|hn
    ·exact⟨y2.pos,y2.dvd⟩
    ·exact n3 n hn
   ·
    refine Dg.eqd ?_ y2.eqd;have hY:Y=row Y ((0:Nat):Int) :: Y.drop 1:=by rw[Zbz (by omega)];exact(List.drop_eq_getElem_cons (i:=0) (l:=Y) (by omega)).symm ▸ rfl
    refine Dg.cons (by omega) y2.dvd y2.pos Sp.sub (λ x=>?_) n4;rw[hY,hF];refine ZnO y2.dvd rfl (λ i i0 i1=>y3 i (by omega) i1) (λ r hr=>?_) x;obtain⟨k,q0,q1,e⟩:=Zds hr;obtain⟨n,rfl⟩:=Int.eq_ofNat_of_zero_le q0;rw[List.length_drop]at q1;have:=y4 (n+1) (by omega) (by omega);rw[<-e];rw[Ti,Zbz (show n+1<Y.length by omega)]at this;rw[Zbz (by rw[List.length_drop];omega)];show rd ((Y.drop 1)[n]'(by rw[List.length_drop];omega)) ((0:Nat):Int)=0;rw[List.getElem_drop];have e2:1+n=n+1:=by omega
    simp only[e2];exact this
def qs:List (Nat×Nat×Nat):=[(2,2,1),(4,2,2),(8,2,4),(3,3,1),(9,3,3),(5,5,1),(7,7,1),(11,11,1)]
def cq (q:Nat) (l:List Int):Nat:=l.countP λ n=>decide (n%(q:Int)=0)
theorem ZcI (q:Nat) (x:Int) (l:List Int):cq q (x :: l)=cq q l+if x%(q:Int)=0 then 1 else 0:=by
 rw[cq,List.countP_cons]
 by_cases h:x%(q:Int)=0
 ·rw[if_pos (decide_eq_true h),if_pos h];rfl
 ·rw[if_neg (by simpa using h),if_neg h];rfl
theorem ZmU:((List.range 13).all λ m=>(List.range 13).all λ n=>qs.all λ t=>!(decide (0<n) && decide (m%n=0) && decide (m%t.1=0) && decide (0<m)) || decide (gq (m:Int) (t.2.2:Int) (n:Int)=gq (m:Int) (t.1:Int) (n:Int)*(if(n:Int)%(t.1:Int)=0 then t.2.1 else 1)))=true:=by decide +kernel
theorem Zn9 (m:Nat) (hm:m<=12) (n:Nat) (hn:n<=12) (t:Nat×Nat×Nat) (ht:t∈qs) (n0:0<n) (h1:m%n=0) (h2:m%t.1=0) (m0:0<m):gq (m:Int) (t.2.2:Int) (n:Int)=gq (m:Int) (t.1:Int) (n:Int)*(if(n:Int)%(t.1:Int)=0 then t.2.1 else 1):=by
 have h:=List.all_eq_true.1 (List.all_eq_true.1 (List.all_eq_true.1 ZmU m (List.mem_range.2 (by omega))) n (List.mem_range.2 (by omega))) t ht;rw[Bool.or_eq_true,decide_eq_true n0,decide_eq_true h1,decide_eq_true h2,decide_eq_true m0]at h;rcases h with h|h
 ·cases h
 ·exact of_decide_eq_true h
theorem qs_bd:∀t∈qs,2<=t.1/\2<=t.2.1/\0<t.2.2/\t.1<=12/\t.1=t.2.1*t.2.2:=by decide
theorem Zhq {m:Int} (m2:2<=m) (m12:m<=12) {t:Nat×Nat×Nat} (ht:t∈qs) (hm:m%(t.1:Int)=0):∀l:List Int,(∀n∈l,0<n/\n∣m)->prodN (l.map λ n=>gq m (t.2.2:Int) n)=prodN (l.map λ n=>gq m (t.1:Int) n)*t.2.1 ^ cq t.1 l
 | [],_=>by simp[prodN,cq]
 | n :: l,h=>by
  obtain⟨n0,n1⟩:=h n List.mem_cons_self;have ih:=Zhq m2 m12 ht hm l λ x hx=>h x (List.mem_cons_of_mem _ hx)
  have nm:=Int.le_of_dvd (by omega) n1;obtain⟨M,rfl⟩:=Int.eq_ofNat_of_zero_le (show 0<=m by omega);obtain⟨N,rfl⟩:=Int.eq_ofNat_of_zero_le (Int.le_of_lt n0);have k:=Zn9 M (by omega) N (by omega) t ht (by omega) (by have:=Int.emod_eq_zero_of_dvd n1;omega) (by omega) (by omega);rw[List.map_cons,List.map_cons,prodN,prodN,ih,k,ZcI]
  by_cases e:(N:Int)%(t.1:Int)=0
  ·rw[if_pos e,if_pos e,Nat.pow_succ];simp only[Nat.mul_assoc,Nat.mul_comm,Nat.mul_left_comm]
  ·rw[if_neg e,if_neg e,Nat.mul_one,Nat.add_zero,Nat.mul_assoc]
theorem Zn8:((List.range 13).all λ m=>(List.range 13).all λ n=>(List.range 13).all λ d=>!(decide (0<n) && decide (0<d) && decide (0<m) && decide (m%n=0)) || decide (0<gq (m:Int) (d:Int) (n:Int)))=true:=by decide +kernel
theorem ZlI (m:Nat) (hm:m<=12) (n:Nat) (hn:n<=12) (d:Nat) (hd:d<=12) (n0:0<n) (d0:0<d) (m0:0<m) (h1:m%n=0):0<gq (m:Int) (d:Int) (n:Int):=by
 have h:=List.all_eq_true.1 (List.all_eq_true.1 (List.all_eq_true.1 Zn8 m (List.mem_range.2 (by omega))) n (List.mem_range.2 (by omega))) d (List.mem_range.2 (by omega));rw[Bool.or_eq_true,decide_eq_true n0,decide_eq_true d0,decide_eq_true m0,decide_eq_true h1]at h;rcases h with h|h
 ·cases h
 ·exact of_decide_eq_true h
theorem Zgf:∀l:List Nat,(∀x∈l,0<x)->0<prodN l
 | [],_=>by decide
 | x :: l,h=>Nat.mul_pos (h x List.mem_cons_self) (Zgf l λ y hy=>h y (List.mem_cons_of_mem _ hy))
theorem gq_pos' {m:Int} (m2:2<=m) (m12:m<=12) {d n:Int} (d0:0<d) (d1:d<=12) (n0:0<n) (n1:n∣m):0<gq m d n:=by have nm:=Int.le_of_dvd (by omega) n1;obtain⟨M,rfl⟩:=Int.eq_ofNat_of_zero_le (show 0<=m by omega);obtain⟨N,rfl⟩:=Int.eq_ofNat_of_zero_le (Int.le_of_lt n0);obtain⟨D', rfl⟩:=Int.eq_ofNat_of_zero_le (Int.le_of_lt d0);exact ZlI M (by omega) N (by omega) D' (by omega) (by omega) (by omega) (by omega) (by have:=Int.emod_eq_zero_of_dvd n1;omega)
theorem ZiP {m:Int} {q:Nat} (h:¬ m%(q:Int)=0) (q0:0<q):∀l:List Int,(∀n∈l,n∣m)->cq q l=0
 | [],_=>rfl
 | n :: l,k=>by rw[ZcI,ZiP h q0 l λ x hx=>k x (List.mem_cons_of_mem _ hx),if_neg λ e=>h (Int.emod_eq_zero_of_dvd (Int.dvd_trans (Int.dvd_of_emod_eq_zero e) (k n List.mem_cons_self)))]
theorem Zn0 {m:Int} (m2:2<=m) (m12:m<=12) {l l' : List Int} (h:∀n∈l,0<n/\n∣m) (h' : ∀n∈l', 0<n/\n∣m) (H:∀d,0<d->d∣m->prodN (l.map λ n=>gq m d n)=prodN (l'.map λ n=>gq m d n)) {t:Nat×Nat×Nat} (ht:t∈qs):cq t.1 l=cq t.1 l':=by
 obtain⟨b1,b2,b3,b4,b5⟩:=qs_bd t ht
 by_cases hm:m%(t.1:Int)=0
 ·
  have e1:=Zhq m2 m12 ht hm l h;have e2:=Zhq m2 m12 ht hm l' h';have hd:(t.1:Int)∣m:=Int.dvd_of_emod_eq_zero hm;have hd' : (t.2.2:Int)∣m:=Int.dvd_trans ⟨(t.2.1:Int),by rw[b5];push_cast;rw[Int.mul_comm]⟩ hd;rw[H _ (by omega) hd', H _ (by omega) hd,e2]at e1;have hp:0<prodN (l'.map λ n=>gq m (t.1:Int) n):=Zgf _ λ x hx=>by obtain⟨n,hn,rfl⟩:=List.mem_map.1 hx;exact gq_pos' m2 m12 (by omega) (by omega) (h' n hn).1 (h' n hn).2
  have e3:=Nat.eq_of_mul_eq_mul_left hp e1;exact((Nat.pow_right_inj (by omega)).1 e3).symm
 ·rw[ZiP hm (by omega) l λ n hn=>(h n hn).2,ZiP hm (by omega) l' λ n hn=>(h' n hn).2]
def prI (l:List Int):Nat:=prodN (l.map Int.toNat)
theorem ZnC {m:Int} (m0:0<m):∀l:List Int,(∀n∈l,0<n/\n∣m)->prI l*prodN (l.map λ n=>gq m m n)=m.toNat ^ l.length
 | [],_=>rfl
 | n :: l,h=>by
  obtain⟨n0,q,hq⟩:=h n List.mem_cons_self;have ih:=ZnC m0 l λ x hx=>h x (List.mem_cons_of_mem _ hx)
  have q0:0<q:=by
   rcases Int.lt_or_le 0 q with k|k
   ·exact k
   ·have:=Int.mul_le_mul_of_nonneg_left k (Int.le_of_lt n0);omega
  have e:gq m m n=q.toNat:=by
   have hg:((Int.gcd n m:Nat):Int)=n:=by rw[Int.gcd_eq_natAbs_left (⟨q,hq⟩:n∣m)];omega
   rw[gq,hg,hq,Int.mul_ediv_cancel_left _ (by omega)]
  have e2:n.toNat*q.toNat=m.toNat:=by
   rw[hq];obtain⟨N,rfl⟩:=Int.eq_ofNat_of_zero_le (Int.le_of_lt n0);obtain⟨Q,rfl⟩:=Int.eq_ofNat_of_zero_le (Int.le_of_lt q0)
   rfl
  rw[prI,List.map_cons,List.map_cons,prodN,prodN,e,List.length_cons,Nat.pow_succ,<-ih,<-e2,prI];simp only[Nat.mul_assoc,Nat.mul_comm,Nat.mul_left_comm]
structure Chn (m:Int) (L:List Int):Prop where
 ent:∀x∈L,2<=x/\x∣m
 dvd:L.Pairwise λ x y=>x∣y
theorem Chn.tail {m:Int} {x:Int} {L:List Int} (h:Chn m (x :: L)):Chn m L:=⟨λ y hy=>h.ent y (List.mem_cons_of_mem _ hy),(List.pairwise_cons.1 h.dvd).2⟩
theorem cq_le (q:Nat) (l:List Int):cq q l<=l.length:=List.countP_le_length
theorem ZjI {q:Nat}:∀{l:List Int},(∀x∈l,x%(q:Int)=0)->cq q l=l.length
 | [],_=>rfl
 | x :: l,h=>by rw[ZcI,ZjI λ y hy=>h y (List.mem_cons_of_mem _ hy),if_pos (h x List.mem_cons_self),List.length_cons]
theorem Ze1 {a b q:Int} (h:a∣b) (k:a%q=0):b%q=0:=Int.emod_eq_zero_of_dvd (Int.dvd_trans (Int.dvd_of_emod_eq_zero k) h)
theorem Zlf {q:Nat}:∀{L:List Int},(L.Pairwise λ x y=>x∣y)->∀i:Nat,i<L.length->(rd L (i:Int)%(q:Int)=0↔L.length-i<=cq q L)
 | [],_,i,hi=>absurd hi (Nat.not_lt_zero _)
 | x :: L,h,i,hi=>by
  obtain⟨h1,h2⟩:=List.pairwise_cons.1 h;rw[List.length_cons]at hi ⊢
  by_cases e:x%(q:Int)=0
  ·
   have ha:cq q L=L.length:=ZjI λ y hy=>Ze1 (h1 y hy) e
   rw[ZcI,if_pos e,ha];refine⟨λ _=>by omega,λ _=>?_⟩
   cases i with
   | zero=>rw[rd_c0];exact e
   | succ i=>rw[rd_cs];exact Ze1 (h1 _ (ZbU (by omega) (by omega))) e
  ·
   rw[ZcI,if_neg e]
   cases i with
   | zero =>
    rw[rd_c0];have:=cq_le q L;exact⟨λ k=>absurd k e,λ k=>by omega⟩
   | succ i =>
    rw[rd_cs,Zlf h2 i (by omega)];omega
theorem Znd:((List.range 13).all λ x=>(List.range 13).all λ y=>decide (x=0) || decide (y=0) || decide (x=y) || !(qs.all λ t=>decide ((x:Int)%(t.1:Int)=0) == decide ((y:Int)%(t.1:Int)=0)))=true:=by decide +kernel
theorem same12 (x:Nat) (hx:x<=12) (y:Nat) (hy:y<=12) (x0:0<x) (y0:0<y) (H:∀t∈qs,(decide ((x:Int)%(t.1:Int)=0))=(decide ((y:Int)%(t.1:Int)=0))):x=y:=by
 have h:=List.all_eq_true.1 (List.all_eq_true.1 Znd x (List.mem_range.2 (by omega))) y (List.mem_range.2 (by omega));have k:(qs.all λ t=>decide ((x:Int)%(t.1:Int)=0) == decide ((y:Int)%(t.1:Int)=0))=true:=List.all_eq_true.2 λ t ht=>by rw[H t ht];exact beq_self_eq_true _
 rw[k,Bool.or_eq_true,Bool.or_eq_true,Bool.or_eq_true,decide_eq_true_iff,decide_eq_true_iff,decide_eq_true_iff]at h;rcases h with ((h|h)|h)|h
 ·omega
 ·omega
 ·exact h
 ·cases h
theorem Znh:((List.range 13).all λ x=>decide (x<2) || (qs.any λ t=>decide ((x:Int)%(t.1:Int)=0)))=true:=by decide +kernel
theorem some12 (x:Nat) (hx:x<=12) (x2:2<=x):∃t∈qs,(x:Int)%(t.1:Int)=0:=by
 have h:=List.all_eq_true.1 Znh x (List.mem_range.2 (by omega));rw[Bool.or_eq_true,decide_eq_true_iff]at h;rcases h with h|h
 ·omega
 ·obtain⟨t,ht,h⟩:=List.any_eq_true.1 h;exact⟨t,ht,of_decide_eq_true h⟩
theorem Zlg {m:Int} (m2:2<=m) (m12:m<=12) {L L' : List Int} (h:Chn m L) (H:∀t∈qs,cq t.1 L=cq t.1 L'):L.length<=L'.length:=by
 cases L with
 | nil=>exact Nat.zero_le _
 | cons x L =>
  obtain⟨x2,x1⟩:=h.ent x List.mem_cons_self;have:=Int.le_of_dvd (by omega) x1;obtain⟨t,ht,e⟩:=some12 x.toNat (by omega) (by omega);rw[Int.toNat_of_nonneg (by omega)]at e;have:cq t.1 (x :: L)=(x :: L).length:=ZjI λ y hy=>by
   rcases List.mem_cons.1 hy with rfl|hy
   ·exact e
   ·exact Ze1 ((List.pairwise_cons.1 h.dvd).1 y hy) e
  rw[<-this,H t ht];exact cq_le _ _
theorem ZmF {m:Int} (m2:2<=m) (m12:m<=12) {L L' : List Int} (h:Chn m L) (h' : Chn m L') (H:∀t∈qs,cq t.1 L=cq t.1 L'):L=L':=by
 have hl:L.length=L'.length:=Nat.le_antisymm (Zlg m2 m12 h H) (Zlg m2 m12 h' λ t ht=>(H t ht).symm);refine ZgA hl λ i i0 i1=>?_
 obtain⟨n,rfl⟩:=Int.eq_ofNat_of_zero_le i0;obtain⟨a2,a1⟩:=h.ent _ (ZbU i0 i1);obtain⟨b2,b1⟩:=h'.ent _ (ZbU i0 (by omega));have a3:=Int.le_of_dvd (by omega) a1;have b3:=Int.le_of_dvd (by omega) b1;have:=same12 (rd L (n:Int)).toNat (by omega) (rd L' (n:Int)).toNat (by omega) (by omega) (by omega) λ t ht=>by rw[Int.toNat_of_nonneg (by omega),Int.toNat_of_nonneg (by omega)];refine decide_eq_decide.2 ?_;rw[Zlf h.dvd n (by omega),Zlf h'.dvd n (by omega),H t ht,hl]
 omega
def prm5:List Nat:=[2,3,5,7,11]
theorem Znq {p:Nat} (h2:2<=p) (h12:p<=12):Zaz.f (p:Int)=some (decide (p∈prm5)):=by
 have w1:wrapI (2*2)=4:=w64 (by omega) (by omega);have w2:wrapI (3*3)=9:=w64 (by omega) (by omega);have w3:wrapI (4*4)=16:=w64 (by omega) (by omega);have v1:wrapI (2+1)=3:=w64 (by omega) (by omega);have v2:wrapI (3+1)=4:=w64 (by omega) (by omega);have hp:p=2\/p=3\/p=4\/p=5\/p=6\/p=7\/p=8\/p=9\/p=10\/p=11\/p=12:=by omega
 rw[Zaz.f_eq];rcases hp with rfl|rfl|rfl|rfl|rfl|rfl|rfl|rfl|rfl|rfl|rfl
 all_goals
  rw[Zaz.l0_eq,w1,v1]
  try rw[Zaz.l0_eq,w2,v2]
  try rw[Zaz.l0_eq,w3]
  first|rfl|(rw[if_neg (by decide)];rfl)|(rw[if_pos (by decide),if_neg (by decide),if_pos (by decide)];rfl)|(rw[if_pos (by decide),if_neg (by decide),if_neg (by decide),if_neg (by decide)];rfl)|(rw[if_pos (by decide),if_neg (by decide),if_neg (by decide),if_pos (by decide),if_neg (by decide),if_pos (by decide)];rfl)|(rw[if_pos (by decide),if_neg (by decide),if_neg (by decide),if_pos (by decide),if_neg (by decide),if_neg (by decide),if_neg (by decide)];rfl)
def ppt (p n:Nat):Nat:=prodN (qs.map λ t=>if t.2.1=p/\n%t.1=0 then p else 1)
theorem Zos:(prm5.all λ p=>(List.range 13).all λ n=>(List.range 13).all λ x=>decide (n=0) || decide (x=0) || !decide (n%x=0) || decide (n%(x*p)=0) || !decide (x∈[1,p,p*p,p*p*p]) || decide (x=ppt p n))=true:=by decide +kernel
theorem Zop:(prm5.all λ p=>(List.range 13).all λ n=>qs.all λ t=>decide (n=0) || !decide (t.2.1=p) || (decide ((ppt p n)%t.1=0) == decide (n%t.1=0)))=true:=by decide +kernel
theorem Zor:(prm5.all λ p=>(List.range 13).all λ n=>decide (n=0) || (decide (1<ppt p n) == decide (n%p=0)) && decide (0<ppt p n) && decide (ppt p n<=n) && decide (ppt p (ppt p n)=ppt p n))=true:=by decide +kernel
theorem Zl4:(prm5.all λ p=>(List.range 13).all λ n=>(List.range 13).all λ k=>decide (n=0) || decide (k=0) || decide (ppt p k<ppt p n) || decide (ppt p k%ppt p n=0))=true:=by decide +kernel
theorem all13 {P:Nat->Bool} (h:(List.range 13).all P=true) {n:Nat} (hn:n<=12):P n=true:=List.all_eq_true.1 h n (List.mem_range.2 (by omega))
theorem Zpb {p n x:Nat} (hp:p∈prm5) (n0:0<n) (hn:n<=12) (hx:x∈[1,p,p*p,p*p*p]) (x0:0<x) (h1:n%x=0) (h2:¬ n%(x*p)=0):x=ppt p n:=by
 have hxn:x<=n:=Nat.le_of_dvd n0 (Nat.dvd_of_mod_eq_zero h1);have h:=all13 (all13 (List.all_eq_true.1 Zos p hp) hn) (show x<=12 by omega);simp only[Bool.or_eq_true,decide_eq_true_eq,Bool.not_eq_true', decide_eq_false_iff_not]at h;rcases h with ((((h|h)|h)|h)|h)|h
 ·omega
 ·omega
 ·exact absurd h1 h
 ·exact absurd h h2
 ·exact absurd hx h
 ·exact h
theorem Zjg {p n:Nat} (hp:p∈prm5) (n0:0<n) (hn:n<=12) {t:Nat×Nat×Nat} (ht:t∈qs) (e:t.2.1=p):(ppt p n)%t.1=0↔n%t.1=0:=by
 have h:=List.all_eq_true.1 (all13 (List.all_eq_true.1 Zop p hp) hn) t ht;simp only[Bool.or_eq_true,decide_eq_true_eq,Bool.not_eq_true', decide_eq_false_iff_not,beq_iff_eq,decide_eq_decide]at h;rcases h with (h|h)|h
 ·omega
 ·exact absurd e h
 ·exact h
theorem Zl3 {p n:Nat} (hp:p∈prm5) (n0:0<n) (hn:n<=12):(1<ppt p n↔n%p=0)/\0<ppt p n/\ppt p n<=n/\ppt p (ppt p n)=ppt p n:=by
 have h:=all13 (List.all_eq_true.1 Zor p hp) hn;simp only[Bool.or_eq_true,Bool.and_eq_true,decide_eq_true_eq,beq_iff_eq,decide_eq_decide]at h;rcases h with h|⟨⟨⟨h1,h2⟩,h3⟩,h4⟩
 ·omega
 ·exact⟨h1,h2,h3,h4⟩
theorem Zoq {p n k:Nat} (hp:p∈prm5) (n0:0<n) (hn:n<=12) (k0:0<k) (hk:k<=12) (h:ppt p n<=ppt p k):ppt p n∣ppt p k:=by
 have g:=all13 (all13 (List.all_eq_true.1 Zl4 p hp) hn) hk;simp only[Bool.or_eq_true,decide_eq_true_eq]at g;rcases g with ((g|g)|g)|g
 ·omega
 ·omega
 ·omega
 ·exact Nat.dvd_of_mod_eq_zero g
theorem prm5_mem {p:Nat} (h:p∈prm5):p=2\/p=3\/p=5\/p=7\/p=11:=by simpa [prm5] using h
theorem Znl (a b:Nat):Int.tmod (a:Int) (b:Int)=((a%b:Nat):Int):=by rw[Zcc (by omega)];rfl
theorem ZfP {os:List Int} {p i:Nat} (hp:p∈prm5) (hi:i<os.length) {n:Nat} (hn:rd os (i:Int)=(n:Int)) (n0:0<n) (n12:n<=12) {r0 r1:List Int} {R:Option (List Int)}
  (h1:ppt p n=1->Zg.l1 os (p:Int) ((i+1:Nat):Int) r0 r1=R) (hl:r1.length<=100000)
  (h2:¬ ppt p n=1->Zg.l5 os (p:Int) (i:Int) ((ppt p n:Nat):Int) (r1.length:Int) r0 (r1++[((ppt p n:Nat):Int)])=R) (hi2:os.length<=100000) :
  Zg.l3 os (p:Int) (i:Int) 1 r0 r1=R:=by
 have p5:=prm5_mem hp;have hP:=Znq (p:=p) (by omega) (by omega);rw[decide_eq_true hp]at hP;have tt:true=true:=rfl;have key:∀(c x:Nat),13<=x+c->0<x->n%x=0->x∈[1,p,p*p,p*p*p]->Zg.l3 os (p:Int) (i:Int) (x:Int) r0 r1=R:=by
  intro c
  induction c with
  | zero =>
   intro x hx x0 hd _;have:=Nat.le_of_dvd n0 (Nat.dvd_of_mod_eq_zero hd);omega
  | succ c ih =>
   intro x hx x0 hd hm;have hxn:=Nat.le_of_dvd n0 (Nat.dvd_of_mod_eq_zero hd);have xp:x*p<=12*12:=Nat.mul_le_mul (by omega) (by omega);have w:wrapI ((x:Int)*(p:Int))=((x*p:Nat):Int):=by rw[w64 (by rw[<-Int.natCast_mul];omega) (by rw[<-Int.natCast_mul];omega),Int.natCast_mul]
   have xp0:0<x*p:=Nat.mul_pos x0 (by omega);have wl:([((x:Nat):Int)]:List Int).length=1:=rfl;rw[Zg.l3_eq,w,hn,Znl,wn (j:=i) (by omega)]
   by_cases hk:n%(x*p)=0
   ·
    have hle:=Nat.le_of_dvd n0 (Nat.dvd_of_mod_eq_zero hk);have hx2:x+1<=x*p:=by have:x*2<=x*p:=Nat.mul_le_mul_left x (by omega);omega
    have hm' : x*p∈[1,p,p*p,p*p*p]:=by
     simp only[List.mem_cons,List.not_mem_nil,or_false]at hm ⊢;rcases hm with h|h|h|h
     ·rw[h,Nat.one_mul];exact .inr (.inl rfl)
     ·rw[h];exact .inr (.inr (.inl rfl))
     ·rw[h];exact .inr (.inr (.inr rfl))
     ·
      exfalso
      rw[h]at hle;rcases p5 with rfl|rfl|rfl|rfl|rfl<;>omega
    have:=ih (x*p) (by omega) xp0 hk hm';rw[hk]
    (with_reducible repeat (first|refine go_p ?_|refine go_n ?_|refine go_b ?_|dsimp only))
    exact this
   ·
    have e:=Zpb hp n0 n12 hm x0 hd hk;have hk' : ¬ ((n%(x*p):Nat):Int)=0:=by omega
    by_cases h:x=1
    ·
     have:=h1 (by rw[<-e];exact h)
     (with_reducible repeat (first|refine go_p ?_|refine go_n ?_|refine go_b ?_|dsimp only))
     exact this
    ·
     have:=h2 (by rw[<-e];exact h)
     rw[<-e]at this
     (with_reducible repeat (first|refine go_p ?_|refine go_n ?_|refine go_b ?_|dsimp only))
     exact this
 exact key 12 1 (by omega) (by omega) (Nat.mod_one n) List.mem_cons_self
theorem ZhS {os:List Int} {p i:Nat} {x:Int} {r0:List Int} (hi:i<100000):∀(k:Nat) (A B:List Int) (y:Int),A.length=k->A.length+B.length<=100000->(∀b∈B,b<x) ->
  ∃A' B', A++B=A' ++ B' /\ (∀b∈B', b<x)/\(A'=[]\/∃A'' z,A'=A'' ++ [z]/\x<=z)/\Zg.l5 os (p:Int) (i:Int) x (k:Int) r0 (A++y :: B)=Zg.l1 os (p:Int) ((i+1:Nat):Int) r0 (A' ++ x :: B'):=by
 intro k
 induction k with
 | zero =>
  intro A B y hA hl hB;have:=List.eq_nil_of_length_eq_zero hA;subst this;refine⟨[],B,rfl,hB,.inl rfl,?_⟩;have l1:(([]:List Int)++y :: B).length=B.length+1:=by simp
  rw[Zg.l5_eq,wn (j:=i) (by omega)]
  (with_reducible repeat (first|refine go_p ?_|refine go_n ?_|refine go_b ?_|dsimp only))
  rfl
 | succ k ih =>
  intro A B y hA hl hB;obtain⟨A0,z,rfl⟩:∃A0 z,A=A0++[z]:=by
   rcases List.eq_nil_or_concat A with h|⟨a,b,h⟩
   ·rw[h]at hA;cases hA
   ·exact⟨a,b,by rw[h,List.concat_eq_append]⟩
  have hA0:A0.length=k:=by rw[List.length_append,List.length_singleton]at hA;omega
  have ll:((A0++[z])++y :: B).length=k+1+(B.length+1):=by rw[List.length_append,hA,List.length_cons]
  have hlz:(A0++[z]).length=k+1:=hA;have w:wrapI (((k+1:Nat):Int)-1)=(k:Int):=by rw[w64 (by omega) (by omega)];omega
  have hz:rd ((A0++[z])++y :: B) (k:Int)=z:=by rw[rd_get (by omega),List.getElem_append_left (by omega),List.getElem_append_right (by omega)];simp[hA0]
  rw[Zg.l5_eq,w,hz,wn (j:=i) (by omega),Int.toNat_natCast]
  by_cases h:z<x
  ·
   obtain⟨A', B', k1,k2,k3,k4⟩:=ih A0 (z :: B) z hA0 (by rw[List.length_cons];omega) (λ b hb=>by
    rcases List.mem_cons.1 hb with rfl|hb
    ·exact h
    ·exact hB b hb)
   refine⟨A', B', by rw[<-k1,List.append_assoc];rfl,k2,k3,?_⟩
   have hs:((A0++[z])++y :: B).set (k+1) z=A0++z :: z :: B:=by rw[List.set_append_right _ _ (by omega),hA,Nat.sub_self,List.set_cons_zero,List.append_assoc];rfl
   rw[<-k4,hs]
   ((with_reducible repeat (first|refine go_p ?_|refine go_n ?_|refine go_b ?_|dsimp only));first|done|(with_reducible rfl)|simp (disch:=omega) only[w64])
  ·
   refine⟨A0++[z],B,rfl,hB,.inr ⟨A0,z,rfl,by omega⟩,?_⟩;have hs:((A0++[z])++y :: B).set (k+1) x=(A0++[z])++x :: B:=by rw[List.set_append_right _ _ (by omega),hA,Nat.sub_self,List.set_cons_zero]
   rw[hs]
   ((with_reducible repeat (first|refine go_p ?_|refine go_n ?_|refine go_b ?_|dsimp only));first|done|(with_reducible rfl)|simp (disch:=omega) only[w64])
theorem Zey (q:Nat) (a b:List Int):cq q (a++b)=cq q a+cq q b:=List.countP_append
structure Pws (os:List Int) (p i:Nat) (r:List Int):Prop where
 ent:∀x∈r,∃n:Nat,0<n/\n<=12/\1<ppt p n/\x=((ppt p n:Nat):Int)
 srt:r.Pairwise λ a b=>b<=a
 cnt:∀t∈qs,t.2.1=p->cq t.1 r=cq t.1 (os.take i)
 len:r.length<=i
theorem ZiK {os:List Int} (hos:∀n∈os,0<n/\n<=12) (hl:os.length<=1000) {p:Nat} (hp:p∈prm5) {r0:List Int}:∃r,Zg.l1 os (p:Int) 0 r0 []=Zg.l4 os (p:Int) 0 r0 r/\Pws os p os.length r:=by
 have key:∀(c i:Nat) (r:List Int),i+c=os.length->Pws os p i r->∃r', Zg.l1 os (p:Int) (i:Int) r0 r=Zg.l4 os (p:Int) 0 r0 r' /\ Pws os p os.length r':=by
  intro c
  induction c with
  | zero =>
   intro i r hi hP;have:i=os.length:=by omega
   subst this;refine⟨r,?_,hP⟩;rw[Zg.l1_eq]
   ((with_reducible repeat (first|refine go_p ?_|refine go_n ?_|refine go_b ?_|dsimp only));first|done|(with_reducible rfl)|simp (disch:=omega) only[w64])
  | succ c ih =>
   intro i r hi hP;have hil:i<os.length:=by omega
   obtain⟨a0,a1⟩:=hos _ (ZbU (i:=(i:Int)) (by omega) (by omega));obtain⟨n,hn⟩:=Int.eq_ofNat_of_zero_le (Int.le_of_lt a0);have n0:0<n:=by omega
   have n12:n<=12:=by omega
   obtain⟨b1,b2,b3,b4⟩:=Zl3 hp n0 n12;have tk:os.take (i+1)=os.take i++[(n:Int)]:=by rw[List.take_add_one,List.getElem?_eq_getElem hil,<-rd_get hil,hn];rfl
   have one:∀q:Nat,cq q [(n:Int)]=if n%q=0 then 1 else 0:=λ q=>by
    rw[ZcI];show 0+_=_;rw[Nat.zero_add]
    by_cases h:n%q=0
    ·rw[if_pos h,if_pos (by omega)]
    ·rw[if_neg h,if_neg (by omega)]
   have one' : ∀q:Nat,cq q [((ppt p n:Nat):Int)]=if ppt p n%q=0 then 1 else 0:=λ q=>by
    rw[ZcI];show 0+_=_;rw[Nat.zero_add]
    by_cases h:ppt p n%q=0
    ·rw[if_pos h,if_pos (by omega)]
    ·rw[if_neg h,if_neg (by omega)]
   have rl:=hP.len;have goal:∃r', Zg.l3 os (p:Int) (i:Int) 1 r0 r=Zg.l1 os (p:Int) ((i+1:Nat):Int) r0 r' /\ Pws os p (i+1) r':=by
    by_cases h:ppt p n=1
    ·refine⟨r,ZfP hp hil hn n0 n12 (λ _=>rfl) (by omega) (λ k=>absurd h k) (by omega),hP.ent,hP.srt,λ t ht e=>?_,by omega⟩;have hb:=qs_bd t ht;rw[tk,Zey,one,hP.cnt t ht e,if_neg λ hz=>?_,Nat.add_zero];have:=(Zjg hp n0 n12 ht e).2 hz;rw[h,Nat.mod_eq_of_lt (by omega)]at this;omega
    ·
     obtain⟨A', B', k1,k2,k3,k4⟩:=ZhS (os:=os) (p:=p) (i:=i) (x:=((ppt p n:Nat):Int)) (r0:=r0) (by omega) r.length r [] ((ppt p n:Nat):Int) rfl (by rw[List.length_nil];omega) (λ b hb=>by cases hb)
     rw[List.append_nil]at k1;refine⟨A' ++ ((ppt p n:Nat):Int) :: B', ZfP hp hil hn n0 n12 (λ k=>absurd k h) (by omega) (λ _=>k4) (by omega),λ x hx=>?_,?_,λ t ht e=>?_,?_⟩
     ·
      rcases List.mem_append.1 hx with hx|hx
      ·exact hP.ent x (by rw[k1];exact List.mem_append_left _ hx)
      ·
       rcases List.mem_cons.1 hx with rfl|hx
       ·exact⟨n,n0,n12,by omega,rfl⟩
       ·exact hP.ent x (by rw[k1];exact List.mem_append_right _ hx)
     ·
      have hs:=hP.srt;rw[k1]at hs;obtain⟨s1,s2,s3⟩:=List.pairwise_append.1 hs;refine List.pairwise_append.2 ⟨s1,List.pairwise_cons.2 ⟨λ b hb=>Int.le_of_lt (k2 b hb),s2⟩,λ a ha b hb=>?_⟩;rcases List.mem_cons.1 hb with rfl|hb
      ·
       rcases k3 with k3|⟨A'', z,k3,k5⟩
       ·rw[k3]at ha;cases ha
       ·
        rw[k3]at ha s1;rcases List.mem_append.1 ha with ha|ha
        ·have:=(List.pairwise_append.1 s1).2.2 a ha z (List.mem_singleton.2 rfl);omega
        ·rw[List.mem_singleton.1 ha];exact k5
      ·exact s3 a ha b hb
     ·
      rw[tk,Zey t.1 (os.take i),one,<-hP.cnt t ht e,k1,Zey t.1 A' B', Zey t.1 A' (_ :: B'),ZcI];have hm:=Zjg hp n0 n12 ht e
      by_cases hz:n%t.1=0
      ·rw[if_pos hz,if_pos (by have:=hm.2 hz;omega)];omega
      ·rw[if_neg hz,if_neg (by intro h';exact hz (hm.1 (by omega)))];omega
     ·rw[List.length_append,List.length_cons];have:=congrArg List.length k1;rw[List.length_append]at this;omega
   obtain⟨r1,g1,g2⟩:=goal;obtain⟨r', g3,g4⟩:=ih (i+1) r1 (by omega) g2;refine⟨r', ?_,g4⟩;rw[<-g3,<-g1,Zg.l1_eq]
   ((with_reducible repeat (first|refine go_p ?_|refine go_n ?_|refine go_b ?_|dsimp only));first|done|(with_reducible rfl)|simp (disch:=omega) only[w64])
 exact key os.length 0 [] (by omega) ⟨λ x hx=>(by cases hx),List.Pairwise.nil,λ t _ _=>rfl,Nat.le_refl _⟩
theorem ZiJ {os:List Int} (hos:∀n∈os,0<n/\n<=12) (hl:os.length<=1000) {p:Nat} (p2:2<=p) (p12:p<=12) (hp:p ∉ prm5) {r0:List Int}:Zg.l1 os (p:Int) 0 r0 []=Zg.l4 os (p:Int) 0 r0 []:=by
 have hP:=Znq p2 p12;rw[decide_eq_false hp]at hP;have ff:¬ false=true:=Bool.false_ne_true;have loop:=up os.length (λ i=>Zg.l1 os (p:Int) (i:Int) r0 []) (λ i hi=>by
  obtain⟨a0,a1⟩:=hos _ (ZbU (i:=(i:Int)) (by omega) (by omega));have w:wrapI (1*(p:Int))=(p:Int):=by rw[w64 (by omega) (by omega)];omega
  have e1:(1:Int)=1:=rfl;rw[Zg.l1_eq]
  (with_reducible repeat (first|refine go_p ?_|refine go_n ?_|refine go_b ?_|dsimp only))
  rw[Zg.l3_eq,w,wn (j:=i) (by omega)]
  by_cases h:Int.tmod (rd os (i:Int)) (p:Int)=0
  ·((with_reducible repeat (first|refine go_p ?_|refine go_n ?_|refine go_b ?_|dsimp only));first|done|(with_reducible rfl)|simp (disch:=omega) only[w64])
  ·((with_reducible repeat (first|refine go_p ?_|refine go_n ?_|refine go_b ?_|dsimp only));first|done|(with_reducible rfl)|simp (disch:=omega) only[w64]))
 have loop:Zg.l1 os (p:Int) 0 r0 []=Zg.l1 os (p:Int) (os.length:Int) r0 []:=loop;rw[loop,Zg.l1_eq]
 ((with_reducible repeat (first|refine go_p ?_|refine go_n ?_|refine go_b ?_|dsimp only));first|done|(with_reducible rfl)|simp (disch:=omega) only[w64])
theorem Zlq {q:Nat}:∀{L:List Int},(L.Pairwise λ x y=>y∣x)->∀i:Nat,i<L.length->(rd L (i:Int)%(q:Int)=0↔i<cq q L)
 | [],_,i,hi=>absurd hi (Nat.not_lt_zero _)
 | x :: L,h,i,hi=>by
  obtain⟨h1,h2⟩:=List.pairwise_cons.1 h;rw[List.length_cons]at hi
  by_cases e:x%(q:Int)=0
  ·
   rw[ZcI,if_pos e]
   cases i with
   | zero=>rw[rd_c0];exact⟨λ _=>by omega,λ _=>e⟩
   | succ i=>rw[rd_cs,Zlq h2 i (by omega)];omega
  ·
   have hz:cq q L=0:=List.countP_eq_zero.2 λ y hy k=>e (Ze1 (h1 y hy) (by simpa using k))
   rw[ZcI,if_neg e,hz]
   cases i with
   | zero=>rw[rd_c0];exact⟨λ k=>absurd k e,λ k=>by omega⟩
   | succ i =>
    rw[rd_cs];refine⟨λ k=>?_,λ k=>by omega⟩;exact absurd (Ze1 (h1 _ (ZbU (by omega) (by omega))) k) e
theorem Zln {q:Nat}:∀{L:List Int} {c:Nat},c<=L.length->(∀i:Nat,i<L.length->(rd L (i:Int)%(q:Int)=0↔i<c))->cq q L=c
  | [], c, hc, _=>by rw[List.length_nil]at hc;have:c=0:=by omega
                     subst this;rfl
  | x :: L,c,hc,h=>by
    rw[List.length_cons]at hc;have h0:=h 0 (by rw[List.length_cons];omega);rw[rd_c0]at h0;rw[ZcI]
    cases c with
    | zero =>
      rw[if_neg λ k=>absurd (h0.1 k) (by omega),Zln (c:=0) (by omega) λ i hi=>?_];have:=h (i+1) (by rw[List.length_cons];omega);rw[rd_cs]at this;rw[this];omega
    | succ c =>
      rw[if_pos (h0.2 (by omega)),Zln (c:=c) (by omega) λ i hi=>?_];have:=h (i+1) (by rw[List.length_cons];omega);rw[rd_cs]at this;rw[this];omega
def rd1 (o:List Int) (i:Nat):Int:=if i<o.length then rd o (i:Int)else 1
def evp (os:List Int) (p i:Nat):Nat:=prodN (qs.map λ t=>if t.2.1=p/\i<cq t.1 os then p else 1)
def ent (os:List Int) (P i:Nat):Nat:=prodN (qs.map λ t=>if t.2.1<P/\i<cq t.1 os then t.2.1 else 1)
theorem Zg9 (os:List Int) (P i:Nat):ent os (P+1) i=ent os P i*evp os P i:=by
 have:∀l:List (Nat×Nat×Nat),prodN (l.map λ t=>if t.2.1<P+1/\i<cq t.1 os then t.2.1 else 1)=prodN (l.map λ t=>if t.2.1<P/\i<cq t.1 os then t.2.1 else 1)*prodN (l.map λ t=>if t.2.1=P/\i<cq t.1 os then P else 1):=by
  intro l
  induction l with
  | nil=>rfl
  | cons t l ih =>
   rw[List.map_cons,List.map_cons,List.map_cons,prodN,prodN,prodN,ih];have e:(if t.2.1<P+1/\i<cq t.1 os then t.2.1 else 1)=(if t.2.1<P/\i<cq t.1 os then t.2.1 else 1)*(if t.2.1=P/\i<cq t.1 os then P else 1):=by
    by_cases h:i<cq t.1 os
    ·
     by_cases h1:t.2.1<P
     ·rw[if_pos ⟨by omega,h⟩,if_pos ⟨h1,h⟩,if_neg (by omega),Nat.mul_one]
     ·
      by_cases h2:t.2.1=P
      ·rw[if_pos ⟨by omega,h⟩,if_neg (by omega),if_pos ⟨h2,h⟩,Nat.one_mul,h2]
      ·rw[if_neg (by omega),if_neg (by omega),if_neg (by omega)]
    ·rw[if_neg (by omega),if_neg (by omega),if_neg (by omega)]
   rw[e];simp only[Nat.mul_assoc,Nat.mul_comm,Nat.mul_left_comm]
 exact this qs
theorem ZgL {f g:Nat×Nat×Nat->Nat}:∀l:List (Nat×Nat×Nat),(∀t,f t<=g t)->prodN (l.map f)<=prodN (l.map g)
 | [],_=>Nat.le_refl _
 | t :: l,h=>Nat.mul_le_mul (h t) (ZgL l h)
theorem Zis {f g:Nat×Nat×Nat->Nat}:∀l:List (Nat×Nat×Nat),(∀t,f t∣g t)->prodN (l.map f)∣prodN (l.map g)
 | [],_=>Nat.dvd_refl _
 | t :: l,h=>Nat.mul_dvd_mul (h t) (Zis l h)
theorem ZjO (os:List Int) (P i:Nat):0<ent os P i/\ent os P i<=27720:=by
 constructor
 ·
  refine Zgf _ λ x hx=>?_
  obtain⟨t,ht,rfl⟩:=List.mem_map.1 hx;have:=qs_bd t ht
  split<;>omega
 ·
  have h:=ZgL (f:=λ t=>if t.2.1<P/\i<cq t.1 os then t.2.1 else 1) (g:=λ t=>if t.2.1=0 then 1 else t.2.1) qs λ t=>by split<;>split<;>omega
  exact h
theorem Zl8 {os:List Int} {p:Nat} (hp:p∈prm5) {r:List Int} (h:Pws os p os.length r) (i:Nat):rd1 r i=((evp os p i:Nat):Int):=by
 have hc:∀t∈qs,t.2.1=p->cq t.1 r=cq t.1 os:=λ t ht e=>by rw[h.cnt t ht e,List.take_length]
 have hd:r.Pairwise λ x y=>y∣x:=List.Pairwise.imp_of_mem (λ {a b} ha hb hab=>by obtain⟨n,n0,n12,_,rfl⟩:=h.ent a ha;obtain⟨k,k0,k12,_,rfl⟩:=h.ent b hb;exact Int.natCast_dvd_natCast.2 (Zoq hp k0 k12 n0 n12 (by omega))) h.srt
 unfold rd1
 by_cases hi:i<r.length
 ·
  rw[if_pos hi];obtain⟨n,n0,n12,n1,e⟩:=h.ent _ (ZbU (i:=(i:Int)) (by omega) (by omega));have b:=Zl3 hp n0 n12;rw[e]
  congr 1
  rw[<-b.2.2.2];show prodN (qs.map λ t=>if t.2.1=p/\(ppt p n)%t.1=0 then p else 1)=prodN (qs.map λ t=>if t.2.1=p/\i<cq t.1 os then p else 1)
  congr 1
  refine List.map_congr_left λ t ht=>?_
  by_cases hp' : t.2.1=p
  ·
   have k:=Zlq (q:=t.1) hd i hi;rw[hc t ht hp', e]at k
   by_cases k2:i<cq t.1 os
   ·rw[if_pos ⟨hp', by have:=k.2 k2;omega⟩,if_pos ⟨hp', k2⟩]
   ·rw[if_neg (λ hh=>k2 (k.1 (by have:=hh.2;omega))),if_neg λ hh=>k2 hh.2]
  ·rw[if_neg λ hh=>hp' hh.1,if_neg λ hh=>hp' hh.1]
 ·
  rw[if_neg hi];have:evp os p i=prodN (qs.map λ _=>1):=by
   unfold evp
   congr 1
   refine List.map_congr_left λ t ht=>if_neg λ hh=>?_
   have:=cq_le t.1 r;rw[hc t ht hh.1]at this;omega
  rw[this]
  rfl
structure Out (os:List Int) (P:Nat) (o:List Int):Prop where
 val:∀i:Nat,rd1 o i=((ent os P i:Nat):Int)
 up:∀t∈qs,t.2.1<P->cq t.1 os<=o.length
 dn:∀i:Nat,i<o.length->∃t∈qs,t.2.1<P/\i<cq t.1 os
 len:o.length<=os.length
theorem ZnD {o:List Int} {x:Int} {i:Nat} (h:i<o.length):rd (o++[x]) (i:Int)=rd o (i:Int):=by rw[rd_get (by rw[List.length_append];omega),rd_get h,List.getElem_append_left h]
theorem Zji (o:List Int) (x:Int):rd (o++[x]) (o.length:Int)=x:=by rw[rd_get (by simp),List.getElem_append_right (Nat.le_refl _)];simp
theorem ZhT {os o r:List Int} {p:Nat} (hol:o.length<=1000) (hrl:r.length<=1000) (p12:p<=12) (ho:∀i:Nat,0<=rd1 o i/\rd1 o i<=27720) (hr:∀i:Nat,0<=rd1 r i/\rd1 r i<=27720) :
  ∃o', Zg.l4 os (p:Int) 0 o r=Zg.l0 os ((p+1:Nat):Int) o' /\ o'.length=max o.length r.length/\∀i:Nat,rd1 o' i=rd1 o i*rd1 r i:=by
 have key:∀(c i:Nat) (o1:List Int),i+c=r.length->o1.length=max o.length i->(∀j:Nat,rd1 o1 j=rd1 o j*if j<i then rd1 r j else 1)->∃o', Zg.l4 os (p:Int) (i:Int) o1 r=Zg.l0 os ((p+1:Nat):Int) o' /\ o'.length=max o.length r.length/\∀i:Nat,rd1 o' i=rd1 o i*rd1 r i:=by
  intro c
  induction c with
  | zero =>
   intro i o1 hi hl hv;have:i=r.length:=by omega
   subst this;refine⟨o1,?_,hl,λ j=>?_⟩
   ·
    rw[Zg.l4_eq,wn (j:=p) (by omega)]
    ((with_reducible repeat (first|refine go_p ?_|refine go_n ?_|refine go_b ?_|dsimp only));first|done|(with_reducible rfl)|simp (disch:=omega) only[w64])
   ·
    rw[hv j]
    by_cases h:j<r.length
    ·rw[if_pos h]
    ·rw[if_neg h];unfold rd1;rw[if_neg (show ¬ j<r.length from h)]
  | succ c ih =>
   intro i o1 hi hl hv;have hir:i<r.length:=by omega
   have vr:rd r (i:Int)=rd1 r i:=by unfold rd1;rw[if_pos hir]
   obtain⟨r0,r1⟩:=hr i;obtain⟨o0,o1'⟩:=ho i;have hvi:=hv i;rw[if_neg (Nat.lt_irrefl i),Int.mul_one]at hvi;have pb:0<=rd1 o i*rd1 r i/\rd1 o i*rd1 r i<=27720*27720:=by
    constructor
    ·exact Int.mul_nonneg o0 r0
    ·exact Int.mul_le_mul o1' r1 r0 (by omega)
   have w:wrapI (rd1 o i*rd1 r i)=rd1 o i*rd1 r i:=w64 (by omega) (by omega)
   by_cases he:i=o1.length
   ·
    have lone:([1]:List Int).length=1:=rfl;have hla:(o1++[1]).length=i+1:=by rw[List.length_append,lone,<-he]
    have hre:rd (o1++[1]) (i:Int)=rd1 o i:=by rw[<-hvi,he,Zji];unfold rd1;rw[if_neg (Nat.lt_irrefl _)]
    have hset:(o1++[1]).set i (rd1 o i*rd1 r i)=o1++[rd1 o i*rd1 r i]:=by rw[List.set_append_right _ _ (by omega),he,Nat.sub_self,List.set_cons_zero]
    obtain ⟨o', k1,k2⟩:=ih (i+1) (o1++[rd1 o i*rd1 r i]) (by omega) (by rw[List.length_append,List.length_singleton];omega) (λ j=>by
     by_cases hj:j<i
     ·
      have h1:rd1 (o1++[rd1 o i*rd1 r i]) j=rd1 o1 j:=by
       show(if j<(o1++[rd1 o i*rd1 r i]).length then rd (o1++[rd1 o i*rd1 r i]) (j:Int)else 1)=if j<o1.length then rd o1 (j:Int)else 1
       rw[if_pos (show j<(o1++[rd1 o i*rd1 r i]).length by rw[List.length_append];omega),if_pos (show j<o1.length by omega),ZnD (by omega)]
      rw[h1,hv j,if_pos hj,if_pos (by omega)]
     ·
      by_cases hj2:j=i
      ·
       subst hj2;rw[if_pos (by omega)];show(if j<(o1++[rd1 o j*rd1 r j]).length then rd (o1++[rd1 o j*rd1 r j]) (j:Int)else 1)=_;rw[if_pos (by rw[List.length_append,List.length_singleton];omega)]
       conv=>lhs;rw[he]
       rw[Zji,<-he]
      ·rw[if_neg (by omega),Int.mul_one];have h2:=hv j;rw[if_neg hj,Int.mul_one]at h2;rw[<-h2];unfold rd1;rw[if_neg (by rw[List.length_append,List.length_singleton];omega),if_neg (by omega)])
    refine⟨o', ?_,k2⟩;have he' : (i:Int)=(o1.length:Int):=by omega
    rw[<-k1,Zg.l4_eq,hre,vr,w,wn (j:=i) (by omega),Int.toNat_natCast,hset]
    ((with_reducible repeat (first|refine go_p ?_|refine go_n ?_|refine go_b ?_|dsimp only));first|done|(with_reducible rfl)|simp (disch:=omega) only[w64])
   ·
    have hio:i<o1.length:=by omega
    have hre:rd o1 (i:Int)=rd1 o i:=by rw[<-hvi];unfold rd1;rw[if_pos hio]
    obtain ⟨o', k1,k2⟩:=ih (i+1) (o1.set i (rd1 o i*rd1 r i)) (by omega) (by rw[List.length_set];omega) (λ j=>by
     by_cases hj:j=i
     ·subst hj;rw[if_pos (by omega)];unfold rd1;rw[if_pos (by rw[List.length_set];exact hio),Zbw hio]
     ·
      have h1:rd1 (o1.set i (rd1 o i*rd1 r i)) j=rd1 o1 j:=by unfold rd1;rw[List.length_set,ZbE hj]
      rw[h1,hv j]
      by_cases h:j<i
      ·rw[if_pos h,if_pos (by omega)]
      ·rw[if_neg h,if_neg (by omega)])
    refine⟨o', ?_,k2⟩;have he' : ¬ (i:Int)=(o1.length:Int):=by omega
    rw[<-k1,Zg.l4_eq,hre,vr,w,wn (j:=i) (by omega),Int.toNat_natCast]
    ((with_reducible repeat (first|refine go_p ?_|refine go_n ?_|refine go_b ?_|dsimp only));first|done|(with_reducible rfl)|simp (disch:=omega) only[w64])
 exact key r.length 0 o (by omega) (by omega) λ j=>by rw[if_neg (Nat.not_lt_zero _),Int.mul_one]
theorem Zle (o:List Int) (hl:o.length<=1000):Zg.l2 0 (wrapI ((o.length:Int)-1)) o=some o.reverse:=by
 have key:∀(c i:Nat) (l:List Int),o.length<=2*i+1+c->2*i<=o.length+1->l.length=o.length->(∀j:Nat,j<o.length->rd l (j:Int)=if j<i\/o.length<=j+i then rd o ((o.length-1-j:Nat):Int)else rd o (j:Int))->Zg.l2 (i:Int) ((o.length:Int)-1-(i:Int)) l=some o.reverse:=by
  intro c
  induction c with
  | zero =>
   intro i l hc hi hll hv;have hne:¬ (i:Int)<(o.length:Int)-1-(i:Int):=by omega
   rw[Zg.l2_eq,if_neg hne]
   congr 1
   refine ZgA (by rw[List.length_reverse,hll]) λ z z0 z1=>?_
   obtain⟨j,rfl⟩:=Int.eq_ofNat_of_zero_le z0;have hj:j<o.length:=by omega
   have hr:rd o.reverse (j:Int)=rd o ((o.length-1-j:Nat):Int):=by rw[rd_get (by rw[List.length_reverse];exact hj),rd_get (by omega),List.getElem_reverse]
   rw[hv j hj,hr]
   split
   ·rfl
   ·congr 1;omega
  | succ c ih =>
   intro i l hc hi hll hv
   by_cases hlt:(i:Int)<(o.length:Int)-1-(i:Int)
   ·
    obtain⟨k,hk⟩:∃k:Nat,k=o.length-1-i:=⟨_,rfl⟩
    have hkI:(o.length:Int)-1-(i:Int)=(k:Int):=by omega
    have hik:i≠k:=by omega
    have w:wrapI ((k:Int)-1)=(o.length:Int)-1-((i+1:Nat):Int):=by rw[w64 (by omega) (by omega)];omega
    have vi:=hv i (by omega);have vk:=hv k (by omega);rw[if_neg (by omega)]at vi vk;have:=ih (i+1) ((l.set k (rd l (i:Int))).set i (rd l (k:Int))) (by omega) (by omega) (by rw[List.length_set,List.length_set];exact hll) (λ j hj=>by
     by_cases ji:j=i
     ·subst ji;rw[Zbw (by rw[List.length_set];omega),vk,if_pos (by omega),hk]
     ·
      rw[ZbE ji]
      by_cases jk:j=k
      ·
       subst jk;rw[Zbw (by omega),vi,if_pos (by omega)]
       congr 1;omega
      ·
       rw[ZbE jk,hv j hj]
       by_cases h:j<i\/o.length<=j+i
       ·rw[if_pos h,if_pos (by omega)]
       ·rw[if_neg h,if_neg (by omega)])
    rw[Zg.l2_eq,hkI,w,wn (j:=i) (by omega),Int.toNat_natCast,Int.toNat_natCast,this];have hl1:(l.set k (rd l (i:Int))).length=o.length:=by rw[List.length_set];exact hll
    ((with_reducible repeat (first|refine go_p ?_|refine go_n ?_|refine go_b ?_|dsimp only));first|done|(with_reducible rfl)|simp (disch:=omega) only[w64])
   ·exact ih i l (by omega) hi hll hv
 have e:wrapI ((o.length:Int)-1)=(o.length:Int)-1-((0:Nat):Int):=by rw[w64 (by omega) (by omega)];omega
 rw[e];exact key o.length 0 o (by omega) (by omega) rfl λ j hj=>by rw[if_neg (by omega)]
def bl:List Bool:=[true,false]
theorem Zff (b:Bool):b∈bl:=by cases b<;>decide
def fb (a b c d e f g h:Bool):Nat:=prodN [if a then 2 else 1,if b then 2 else 1,if c then 2 else 1,if d then 3 else 1,if e then 3 else 1,if f then 5 else 1,if g then 7 else 1,if h then 11 else 1]
theorem ZoY:(bl.all λ a=>bl.all λ b=>bl.all λ c=>bl.all λ d=>bl.all λ e=>bl.all λ f=>bl.all λ g=>bl.all λ h=>b && !a || c && !b || e && !d || (
  (decide (fb a b c d e f g h%2=0) == a) && (decide (fb a b c d e f g h%4=0) == b) && (decide (fb a b c d e f g h%8=0) == c) && (decide (fb a b c d e f g h%3=0) == d) && (decide (fb a b c d e f g h%9=0) == e) && (decide (fb a b c d e f g h%5=0) == f) && (decide (fb a b c d e f g h%7=0) == g) && (decide (fb a b c d e f g h%11=0) == h) &&
  ((List.range 13).all λ m=>decide (m=0) || (a && !decide (m%2=0)) || (b && !decide (m%4=0)) || (c && !decide (m%8=0)) || (d && !decide (m%3=0)) || (e && !decide (m%9=0)) || (f && !decide (m%5=0)) || (g && !decide (m%7=0)) || (h && !decide (m%11=0)) || decide (m%fb a b c d e f g h=0))))=true:=by decide +kernel
theorem ZoW (os:List Int) (i:Nat):ent os 13 i=fb (decide (i<cq 2 os)) (decide (i<cq 4 os)) (decide (i<cq 8 os)) (decide (i<cq 3 os)) (decide (i<cq 9 os)) (decide (i<cq 5 os)) (decide (i<cq 7 os)) (decide (i<cq 11 os)):=by simp[ent,fb,qs,prodN]
theorem ZiO {a b:Nat} (h:∀z:Int,z%(a:Int)=0->z%(b:Int)=0) (os:List Int):cq a os<=cq b os:=List.countP_mono_left λ x _ hx=>by simpa using h x (by simpa using hx)
theorem ZhZ {m:Int} (m2:2<=m) (m12:m<=12) {os:List Int} (hos:∀n∈os,0<n/\n∣m) (i:Nat):(∀t∈qs,ent os 13 i%t.1=0↔i<cq t.1 os)/\((ent os 13 i:Nat):Int)∣m:=by
 have some_dvd:∀q:Nat,i<cq q os->m%(q:Int)=0:=λ q h=>by
  have:∃x∈os,decide (x%(q:Int)=0)=true:=List.countP_pos_iff.1 (show 0<os.countP _ by unfold cq at h;omega)
  obtain⟨x,hx,k⟩:=this;exact Ze1 (hos x hx).2 (of_decide_eq_true k)
 have h:=List.all_eq_true.1 (List.all_eq_true.1 (List.all_eq_true.1 (List.all_eq_true.1 (List.all_eq_true.1 (List.all_eq_true.1 (List.all_eq_true.1 (List.all_eq_true.1 ZoY (decide (i<cq 2 os)) (Zff _)) (decide (i<cq 4 os)) (Zff _)) (decide (i<cq 8 os)) (Zff _)) (decide (i<cq 3 os)) (Zff _)) (decide (i<cq 9 os)) (Zff _)) (decide (i<cq 5 os)) (Zff _)) (decide (i<cq 7 os)) (Zff _)) (decide (i<cq 11 os)) (Zff _);rw[<-ZoW]at h;have m1:=ZiO (a:=4) (b:=2) (λ z hz=>by omega) os;have m2':=ZiO (a:=8) (b:=4) (λ z hz=>by omega) os;have m3:=ZiO (a:=9) (b:=3) (λ z hz=>by omega) os;obtain⟨M,rfl⟩:=Int.eq_ofNat_of_zero_le (show 0<=m by omega);simp only[Bool.or_eq_true,Bool.and_eq_true,Bool.not_eq_true', decide_eq_true_eq,decide_eq_false_iff_not,beq_iff_eq,decide_eq_decide]at h;rcases h with ((⟨h1,h2⟩|⟨h1,h2⟩)|⟨h1,h2⟩)|h
 ·omega
 ·omega
 ·omega
 ·
  obtain⟨⟨⟨⟨⟨⟨⟨⟨h2,h4⟩,h8⟩,h3⟩,h9⟩,h5⟩,h7⟩,h11⟩,hm⟩:=h;refine⟨λ t ht=>?_,?_⟩
  ·
   simp only[qs,List.mem_cons,List.not_mem_nil,or_false]at ht;rcases ht with rfl|rfl|rfl|rfl|rfl|rfl|rfl|rfl
   ·exact h2
   ·exact h4
   ·exact h8
   ·exact h3
   ·exact h9
   ·exact h5
   ·exact h7
   ·exact h11
  ·
   have hm:=all13 hm (show M<=12 by omega);have s:=λ q hq=>some_dvd q hq
   have s2:=some_dvd 2;have s4:=some_dvd 4;have s8:=some_dvd 8;have s3:=some_dvd 3;have s9:=some_dvd 9;have s5:=some_dvd 5;have s7:=some_dvd 7;have s11:=some_dvd 11
   simp only[Bool.or_eq_true,Bool.and_eq_true,Bool.not_eq_true', decide_eq_true_eq,decide_eq_false_iff_not]at hm;refine Int.natCast_dvd_natCast.2 (Nat.dvd_of_mod_eq_zero ?_);rcases hm with ((((((((hm|⟨g,k⟩)|⟨g,k⟩)|⟨g,k⟩)|⟨g,k⟩)|⟨g,k⟩)|⟨g,k⟩)|⟨g,k⟩)|⟨g,k⟩)|hm
   ·omega
   ·have:=s2 g;omega
   ·have:=s4 g;omega
   ·have:=s8 g;omega
   ·have:=s3 g;omega
   ·have:=s9 g;omega
   ·have:=s5 g;omega
   ·have:=s7 g;omega
   ·have:=s11 g;omega
   ·exact hm
theorem ZoK {m:Int} (m2:2<=m) (m12:m<=12) {os:List Int} (hos:∀n∈os,0<n/\n∣m) (hl:os.length<=1000):∃L,Zg.f os=some L/\Chn m L/\(∀t∈qs,cq t.1 L=cq t.1 os)/\L.length<=os.length:=by
 have ho12:∀n∈os,0<n/\n<=12:=λ n hn=>⟨(hos n hn).1,by have:=Int.le_of_dvd (by omega) (hos n hn).2;omega⟩
 have key:∀(c P:Nat) (o:List Int),P+c=13->2<=P->Out os P o->∃o', Zg.l0 os (P:Int) o=Zg.l0 os 13 o' /\ Out os 13 o':=by
  intro c
  induction c with
  | zero =>
   intro P o hP _ hO;have:P=13:=by omega
   subst this;exact⟨o,rfl,hO⟩
  | succ c ih =>
   intro P o hP P2 hO;have ol:=hO.len;have hv:∀i:Nat,0<=rd1 o i/\rd1 o i<=27720:=λ i=>by rw[hO.val i];have:=ZjO os P i;omega
   have goal:∃o', Zg.l0 os (P:Int) o=Zg.l0 os ((P+1:Nat):Int) o' /\ Out os (P+1) o':=by
    have hs:Zg.l0 os (P:Int) o=Zg.l1 os (P:Int) 0 o []:=by rw[Zg.l0_eq];((with_reducible repeat (first|refine go_p ?_|refine go_n ?_|refine go_b ?_|dsimp only));first|done|(with_reducible rfl)|simp (disch:=omega) only[w64])
    by_cases hp:P∈prm5
    ·
     obtain⟨r,k1,k2⟩:=ZiK ho12 hl hp (r0:=o);have rl:=k2.len;have ev_bd:∀i,evp os P i<=27720:=λ i=>by have h1:=Zg9 os P i;have h2:=ZjO os (P+1) i;have h3:=ZjO os P i;have:1*evp os P i<=ent os P i*evp os P i:=Nat.mul_le_mul_right _ (by omega);omega
     obtain⟨o', g1,g2,g3⟩:=ZhT (os:=os) (o:=o) (r:=r) (p:=P) (by omega) (by omega) (by omega) hv (λ i=>by rw[Zl8 hp k2 i];have:=ev_bd i;omega)
     refine⟨o', by rw[hs,k1,g1],λ i=>by rw[g3 i,hO.val i,Zl8 hp k2 i,Zg9,Int.natCast_mul],λ t ht h=>?_,λ i hi=>?_,by omega⟩
     ·
      rcases Nat.lt_or_ge t.2.1 P with h' | h'
      ·have:=hO.up t ht h';omega
      ·
       have e:t.2.1=P:=by omega
       have:=cq_le t.1 r;rw[k2.cnt t ht e,List.take_length]at this;omega
     ·
      by_cases h:i<o.length
      ·obtain⟨t,ht,a,b⟩:=hO.dn i h;exact⟨t,ht,by omega,b⟩
      ·
       have hir:i<r.length:=by omega
       have pp:(P,P,1)∈qs:=by rcases prm5_mem hp with h|h|h|h|h<;>rw[h]<;>decide
       refine⟨(P,P,1),pp,Nat.lt_succ_self P,?_⟩;have e:=k2.cnt _ pp rfl;rw[List.take_length]at e;show i<cq P os;rw[show cq P os=cq P r from e.symm,ZjI λ x hx=>?_]
       ·exact hir
       ·
        obtain⟨n,n0,n12,n1,rfl⟩:=k2.ent x hx;have:=((Zl3 hp n0 n12).1.1 n1)
        have:=(Zjg hp n0 n12 pp rfl).2 this;have this:ppt P n%P=0:=this;omega
    ·
     obtain⟨o', g1,g2,g3⟩:=ZhT (os:=os) (o:=o) (r:=[]) (p:=P) (by omega) (by simp) (by omega) hv (λ i=>by unfold rd1;rw[if_neg (by simp)];omega)
     have noq:∀t∈qs,t.2.1≠P:=λ t ht e=>hp (by simp only[qs,List.mem_cons,List.not_mem_nil,or_false]at ht;rcases ht with rfl|rfl|rfl|rfl|rfl|rfl|rfl|rfl<;>(rw[<-e];decide))
     have ev1:∀i,evp os P i=1:=λ i=>by
      have:evp os P i=prodN (qs.map λ _=>1):=by
       unfold evp
       congr 1
       exact List.map_congr_left λ t ht=>if_neg λ h=>noq t ht h.1
      rw[this];rfl
     refine⟨o', by rw[hs,ZiJ ho12 hl P2 (by omega) hp,g1],λ i=>by rw[g3 i,hO.val i,Zg9,ev1 i,Nat.mul_one];unfold rd1;rw[if_neg (by simp),Int.mul_one],λ t ht h=>?_,λ i hi=>?_,by rw[g2,List.length_nil];omega⟩
     ·
      have:=hO.up t ht (by have:=noq t ht;omega)
      omega
     ·
      obtain⟨t,ht,a,b⟩:=hO.dn i (by rw[g2,List.length_nil]at hi;omega)
      exact⟨t,ht,by omega,b⟩
   obtain⟨o1,g1,g2⟩:=goal;obtain⟨o', g3,g4⟩:=ih (P+1) o1 (by omega) (by omega) g2;exact⟨o', by rw[g1,g3],g4⟩
 obtain⟨o,k1,k2⟩:=key 11 2 [] (by omega) (Nat.le_refl _) ⟨λ i=>by
  unfold rd1;rw[if_neg (by simp)];have:ent os 2 i=prodN (qs.map λ _=>1):=by
   unfold ent
   congr 1
   all_goals exact List.map_congr_left λ t ht=>if_neg λ h=>by have:=qs_bd t ht;omega
  exact congrArg Int.ofNat this.symm,λ t ht h=>(by have:=qs_bd t ht;omega),λ i hi=>(by simp at hi),by simp⟩
 have k1:Zg.l0 os 2 []=Zg.l0 os 13 o:=k1;have ol:=k2.len;have val:∀i:Nat,i<o.length->rd o (i:Int)=((ent os 13 i:Nat):Int):=λ i hi=>by have:=k2.val i;unfold rd1 at this;rwa[if_pos hi]at this
 have cnt:∀t∈qs,cq t.1 o=cq t.1 os:=λ t ht=>Zln (k2.up t ht (by
  simp only[qs,List.mem_cons,List.not_mem_nil,or_false]at ht;rcases ht with rfl|rfl|rfl|rfl|rfl|rfl|rfl|rfl<;>decide)) λ i hi=>by
  rw[val i hi,<-(ZhZ m2 m12 hos i).1 t ht];omega
 refine⟨o.reverse,?_,⟨λ x hx=>?_,?_⟩,λ t ht=>?_,by rw[List.length_reverse];exact ol⟩
 ·rw[Zg.f_eq,k1,Zg.l0_eq,if_neg (by decide)];exact Zle o (by omega)
 ·
  obtain⟨i,i0,i1⟩:∃i:Nat,i<o.length/\x=rd o (i:Int):=by obtain⟨n,hn,e⟩:=List.mem_iff_getElem.1 (List.mem_reverse.1 hx);exact⟨n,hn,by rw[rd_get hn,e]⟩
  obtain⟨t,ht,a,b⟩:=k2.dn i i0;obtain⟨f1,f2⟩:=ZhZ m2 m12 hos i;have hd:=(f1 t ht).2 b;have e0:=(ZjO os 13 i).1;have hq:=qs_bd t ht;rw[i1,val i i0];refine⟨?_,f2⟩;have:=Nat.le_of_dvd e0 (Nat.dvd_of_mod_eq_zero hd);omega
 ·
  rw[List.pairwise_reverse];refine List.pairwise_iff_getElem.2 λ i j hi hj hij=>?_
  rw[<-rd_get hi,<-rd_get hj,val i hi,val j hj];refine Int.natCast_dvd_natCast.2 (Zis qs λ t=>?_)
  by_cases h:t.2.1<13/\j<cq t.1 os
  ·rw[if_pos h,if_pos ⟨h.1,by omega⟩];exact Nat.dvd_refl _
  ·rw[if_neg h];exact Nat.one_dvd _
 ·rw[cq,List.countP_reverse];exact cnt t ht
end Go.Proofs.YtdamfbighdkcbaaGreat.V
