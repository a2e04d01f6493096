/- What the proof of the law CrossedMaps stands on, part 10: words, each Go function's Lean function, and that the Go code comes to its answers; no condition. (Packed by wip/myprint/pack.py out of what the kit's printer wrote, its words among it, partly by our patches of it, and out of texts of this session.) -/
import Derived.Test.YthmcpmnhdbeahaaGreatRows
import Derived.WalkKit
import Derived.ProofKit
import Derived.KernelRfl
import Derived.Test.YthmcpmnhdbeahaaGreatKCrossedMaps3
import Derived.Test.YthmcpmnhdbeahaaGreatKCrossedMaps5
import Derived.Test.YthmcpmnhdbeahaaGreatKCrossedMaps6
import Derived.Test.YthmcpmnhdbeahaaGreatKCrossedMaps7
import Derived.Test.YthmcpmnhdbeahaaGreatKCrossedMaps8
import Derived.Test.YthmcpmnhdbeahaaGreatKCrossedMaps9
set_option linter.unusedVariables false
set_option linter.unusedSimpArgs false
set_option maxHeartbeats 4000000
set_option maxRecDepth 20000
namespace Go.Proofs.YthmcpmnhdbeahaaGreat.V
open Go Go.RowKit Go.Proofs.YthmcpmnhdbeahaaGreat.D Go.Proofs.YthmcpmnhdbeahaaGreat.P
def SmT (g:List (List Int)):Prop:=g.length≤9∧∀r∈g,r.length≤9
theorem SmT.max {g:List (List Int)} (h:SmT g):g.length≤maxLen∧∀r∈g,r.length≤maxLen:=⟨ZbT (by have:=h.1;omega),fun r hr=>ZbT (by have:=h.2 r hr;omega)⟩
theorem Znl {g:List (List Int)} (hg:Grp g):SmT g:=⟨by have:=hg.n8;omega,fun r hr=>by have:=ZfS hg r hr;omega⟩
theorem Zk5 {g:List (List Int)} (hg:SmT g) {r:List Int} (hr:r.length≤9) (k:Nat):SmT (g.set k r):=by
 refine⟨by rw[List.length_set];exact hg.1,fun s hs => ?_⟩
 rcases List.mem_or_eq_of_mem_set hs with h|rfl
 ·
  exact hg.2 s h
 ·
  exact hr
theorem Bad_ {c:List Int} {i:Int} (h:Src c i) (hh:Int) {g:List (List Int)} (hg:Grp g):∃g' j h', ZbD.f c i hh g=some (g', c,j,h')∧Src c j∧SmT g' := by
 have n8:=hg.n8;have n1:=hg.n1
 have hsm:=Znl hg
 have hc:=Copy_ g (by omega) (fun r hr=>by have:=ZfS hg r hr;omega)
 obtain⟨x,j,h', e,s,x0,x1,_⟩:=Next_ h hh 50 (by omega)
 obtain⟨y,j2,h2,e2,s2,y0,y1,_⟩:=Next_ s h' (g.length:Int) (by omega)
 have y1:=y1 (by omega)
 have ry:=hg.row y y0 y1
 rw[ZbD.f_eq,hc,Option.bind_some,e]
 dsimp only[Option.bind_some]
 by_cases q0:x=0
 ·
  exact⟨[],j,h', by rw[if_pos q0],s,by simp[SmT]⟩
 by_cases q1:x=1
 ·
  obtain⟨z,j3,h3,e3,s3,z0,z1,_⟩:=Next_ s2 h2 (g.length:Int) (by omega)
  have z1:=z1 (by omega)
  obtain⟨v,j4,h4,e4,s4,_⟩:=Pick_ s3 h3 [0,1,-1,(g.length:Int)] (by simp) (by simp)
  refine⟨g.set y.toNat ((row g y).set z.toNat v),j4,h4,?_,s4,Zk5 hsm (by rw[List.length_set];omega) _⟩
  rw[if_neg q0,if_pos q1,Zao.f_eq,Option.bind_some,e2]
  dsimp only[Option.bind_some]
  rw[if_pos y0,if_pos y1,if_pos y0,if_pos y1,e3]
  dsimp only[Option.bind_some]
  rw[e4]
  dsimp only[Option.bind_some]
  rw[if_pos z0,if_pos (by omega),if_pos z0,if_pos (by omega)]
 by_cases q2:x=2
 ·
  have r0:=hg.row 0 (by omega) (by omega)
  have l1:([row g 0]:List (List Int)).length=1:=rfl
  refine⟨g++[row g 0],j,h', ?_,s,⟨by rw[List.length_append,l1];omega,fun r hr => ?_⟩⟩
  ·
   rw[if_neg q0,if_neg q1,if_pos q2,if_pos (by omega),if_pos (by omega),Own_ _ (by omega)]
   dsimp only[Option.bind_some]
   rw[l1,if_pos (by omega)]
  ·
   rcases List.mem_append.1 hr with k|k
   ·
    exact hsm.2 r k
   ·
    rw[List.mem_singleton]at k
    subst k
    omega
 by_cases q3:x=3
 ·
  refine⟨g.set y.toNat ((row g y).drop 1),j2,h2,?_,s2,Zk5 hsm (by rw[List.length_drop];omega) _⟩
  rw[if_neg q0,if_neg q1,if_neg q2,if_pos q3,Zao.f_eq,Option.bind_some,e2]
  dsimp only[Option.bind_some]
  rw[if_pos y0,if_pos y1,if_pos y0,if_pos y1,if_pos (by omega),if_pos y0,if_pos y1,if_pos y0,if_pos y1]
  rfl
 ·
  exact⟨g,j,h', by rw[if_neg q0,if_neg q1,if_neg q2,if_neg q3],s,hsm⟩
theorem ZiM {c:List Int} {i:Int} (h:Src c i) (hh:Int) (m:Int) {u:List Int} (u1:1≤u.length) (u8:u.length≤8):∃m' u' j h', ZbE.f c i hh m u=some (m', u', c,j,h')∧Src c j∧u'.length≤9:=by
 obtain⟨x,j,h', e,s,x0,x1,_⟩:=Next_ h hh 40 (by omega)
 rw[ZbE.f_eq,e]
 dsimp only[Option.bind_some]
 by_cases q0:x=0
 ·
  obtain⟨v,j4,h4,e4,s4,_⟩:=Pick_ s h' [1,13,wrapI (m+1),0] (by simp) (by simp)
  refine⟨v,u,j4,h4,?_,s4,by omega⟩
  rw[if_pos q0,e4]
  rfl
 by_cases q1:x=1
 ·
  obtain⟨y,j2,h2,e2,s2,y0,y1,_⟩:=Next_ s h' (u.length:Int) (by omega)
  have y1:=y1 (by omega)
  obtain⟨v,j4,h4,e4,s4,_⟩:=Pick_ s2 h2 [0,-1,2,3,m] (by simp) (by simp)
  refine⟨m,u.set y.toNat v,j4,h4,?_,s4,by rw[List.length_set];omega⟩
  rw[if_neg q0,if_pos q1,Own_ u (by omega)]
  dsimp only[Option.bind_some]
  rw[e2]
  dsimp only[Option.bind_some]
  rw[e4]
  dsimp only[Option.bind_some]
  rw[if_pos y0,if_pos y1,if_pos y0,if_pos y1]
 by_cases q2:x=2
 ·
  have l1:([1]:List Int).length=1:=rfl
  refine⟨m,u++[1],j,h', ?_,s,by rw[List.length_append,l1];omega⟩
  rw[if_neg q0,if_neg q1,if_pos q2,Own_ u (by omega)]
  dsimp only[Option.bind_some]
  rw[l1,if_pos (by omega)]
 ·
  exact⟨m,u,j,h', by rw[if_neg q0,if_neg q1,if_neg q2],s,by omega⟩
theorem Zld {g:List (List Int)} (hg:Grp g) {m:Int} {u:List Int} (hm:Mdl g m u):ExC g m u [] (List.replicate g.length 0):=by
 have m2:=hm.m2
 have hz:∀i:Int,rd (List.replicate g.length (0:Int)) i=0:=fun i=>by
  unfold rd
  rw[List.getD_eq_getElem?_getD,List.getElem?_replicate]
  split <;> rfl
 refine⟨List.length_replicate ..,fun i i0 i1=>by rw[hz];omega,fun x _ _ y _ _ => ?_,by simp⟩
 rw[hz,hz,hz,Int.mul_zero,Int.add_zero,Int.zero_emod]
theorem Zk0 {g:List (List Int)} (hg:Grp g) {m:Int} {u:List Int} (hm:Mdl g m u):∃A,Zn.f fuel g m u []=some A∧(∀r,r∈A↔ExC g m u [] r)∧0 < A.length∧A.length≤429981696:=by
 have n8:=hg.n8
 obtain⟨A', b1,b2,b3,b4⟩:=ZjQ hg hm fuel [] (Zb8 fun x hx=>by cases hx) (by simp) (by rw[ZfR];simp;omega) (fun x x0 x1=>by simp at x1;omega)
 refine⟨A', b1,b3,List.length_pos_of_mem ((b3 _).2 (Zld hg hm)),Nat.le_trans b4 (Nat.le_trans (Nat.pow_le_pow_right (by omega) (show g.length - ([]:List Int).length≤8 by simp;omega)) (by decide))⟩
theorem With_ {c:List Int} {i:Int} (h:Src c i) (hh:Int):∃g m u l j h', ZaF.f c i hh=some (g,m,u,l,c,j,h')∧Src c j∧Grp g∧Mdl g m u∧l.length=g.length:=by
 obtain⟨g,j,h', e,s,hg⟩:=Draw_ h hh
 obtain⟨m,j2,h2,e2,s2,m2,m12⟩:=ZmZ s h'
 obtain⟨u,j3,h3,e3,s3,hm⟩:=Zmm s2 h2 hg m2 m12
 obtain⟨A,a1,a2,a3,a4⟩:=Zk0 hg hm
 obtain⟨x,j5,h5,e5,s5,x0,x1,_⟩:=Next_ s3 h3 5 (by omega)
 have n8:=hg.n8
 rw[ZaF.f_eq,e]
 dsimp only[Option.bind_some]
 rw[e2]
 dsimp only[Option.bind_some]
 rw[e3]
 dsimp only[Option.bind_some]
 rw[a1,Option.bind_some,e5]
 dsimp only[Option.bind_some]
 by_cases q:x > 0
 ·
  obtain⟨y,j6,h6,e6,s6,y0,y1,_⟩:=Next_ s5 h5 (A.length:Int) (by omega)
  have y1:=y1 (by omega)
  have hy:=(a2 _).1 (Zeq y0 y1)
  have yl:=hy.len
  refine⟨g,m,u,row A y,j6,h6,?_,s6,hg,hm,yl⟩
  rw[if_pos q,e6]
  dsimp only[Option.bind_some]
  rw[if_pos y0,if_pos y1,if_pos y0,if_pos y1,Own_ _ (by omega),Option.bind_some,ZaF.j0_eq]
 ·
  have main:∀(n k:Nat) (l:List Int) (i hh:Int),k+n=g.length→Src c i→l.length=k→∃l' j h', ZaF.l1 (k:Int) c i hh 0 g m u l=some (g,m,u,l', c,j,h')∧Src c j∧l'.length=g.length:=by
   intro n
   induction n with
   | zero =>
    intro k l i hh hk hs hl
    exact⟨l,i,hh,by rw[ZaF.l1_eq,Zao.f_eq,Option.bind_some,if_neg (by omega),ZaF.j0_eq],hs,by omega⟩
   | succ n ih =>
    intro k l i hh hk hs hl
    obtain⟨y,j6,h6,e6,s6,_⟩:=Next_ hs hh m (by have:=hm.m12;omega)
    obtain⟨l', j7,h7,e7,s7,hl7⟩:=ih (k+1) (l++[y]) j6 h6 (by omega) s6 (by rw[List.length_append,hl];rfl)
    refine⟨l', j7,h7,?_,s7,hl7⟩
    have l1:([y]:List Int).length=1:=rfl
    rw[ZaF.l1_eq,Zao.f_eq,Option.bind_some,if_pos (by omega),e6]
    dsimp only[Option.bind_some]
    rw[l1,if_pos (by omega),wn (j:=k) (by omega)]
    exact e7
  obtain⟨l', j7,h7,e7,s7,hl7⟩:=main g.length 0 [] j5 h5 (by omega) s5 rfl
  exact⟨g,m,u,l', j7,h7,by rw[if_neg q];exact e7,s7,hg,hm,hl7⟩
theorem Znd {g:List (List Int)} (hg:Grp g) {m:Int} {u:List Int} (hm:Mdl g m u):1≤u.length∧u.length≤8:=by
 have:=hg.n8;have:=hg.n1;have:=hm.len
 omega
structure CodeL (c:List Int):Prop where
 ent:∀x∈c,0≤x∧x≤255
 len:c.length≤4096
theorem ZgI {c:List Int} (h:CodeL c):∃g m u l,Zbd.f c=some (g,m,u,l)∧SmT g∧u.length≤9∧l.length≤9:=by
 obtain⟨h0,e0,s0⟩:=From_ h.ent h.len
 obtain⟨g,m,u,l,j,h1,e1,s1,hg,hm,hl⟩:=With_ s0 h0
 obtain⟨x,j2,h2,e2,s2,x0,x1,_⟩:=Next_ s1 h1 24 (by omega)
 obtain⟨u1,u8⟩:=Znd hg hm
 have n8:=hg.n8;have n1:=hg.n1
 have fin:∀(i hh:Int),Src c i→∃g' m' u' j h', (ZbD.f c i hh g).bind (fun t35=>(ZbE.f t35.2.1 t35.2.2.1 t35.2.2.2 m u).bind fun t38=>some (t35.1,t38.1,t38.2.1))=some (g', m', u')∧(ZbD.f c i hh g)=some (g', c,j,h')∧(ZbE.f c j h' m u).map (fun t=>(t.1,t.2.1))=some (m', u')∧SmT g' ∧ u'.length≤9:=fun i hh hs=>by
  obtain⟨g', j5,h5,e5,s5,hg'⟩:=Bad_ hs hh hg
  obtain⟨m', u', j6,h6,e6,s6,hu'⟩:=ZiM s5 h5 m u1 u8
  exact⟨g', m', u', j5,h5,by rw[e5];dsimp only[Option.bind_some];rw[e6];rfl,e5,by rw[e6];rfl,hg', hu'⟩
 rw[Zbd.f_eq,e0]
 dsimp only[Option.bind_some]
 rw[e1]
 dsimp only[Option.bind_some]
 rw[e2]
 dsimp only[Option.bind_some]
 have l1:([0]:List Int).length=1:=rfl
 by_cases q0:x=0
 ·
  obtain⟨g', j5,h5,e5,s5,hg'⟩:=Bad_ s2 h2 hg
  obtain⟨m', u', j6,h6,e6,s6,hu'⟩:=ZiM s5 h5 m u1 u8
  refine⟨g', m', u', l++[0],?_,hg', hu', by rw[List.length_append,l1];omega⟩
  rw[if_pos q0,l1,if_pos (by omega),e5]
  dsimp only[Option.bind_some]
  rw[e6]
  rfl
 by_cases q1:x=1
 ·
  obtain⟨v,j4,h4,e4,s4,_⟩:=Pick_ s2 h2 [-1,m] (by simp) (by simp)
  obtain⟨g', j5,h5,e5,s5,hg'⟩:=Bad_ s4 h4 hg
  obtain⟨m', u', j6,h6,e6,s6,hu'⟩:=ZiM s5 h5 m u1 u8
  refine⟨g', m', u', l.set 0 v,?_,hg', hu', by rw[List.length_set];omega⟩
  rw[if_neg q0,if_pos q1,e4]
  dsimp only[Option.bind_some]
  rw[if_pos (by omega),if_pos (by omega),e5]
  dsimp only[Option.bind_some]
  rw[e6]
  rfl
 ·
  obtain⟨g', j5,h5,e5,s5,hg'⟩:=Bad_ s2 h2 hg
  obtain⟨m', u', j6,h6,e6,s6,hu'⟩:=ZiM s5 h5 m u1 u8
  refine⟨g', m', u', l,?_,hg', hu', by omega⟩
  rw[if_neg q0,if_neg q1,e5]
  dsimp only[Option.bind_some]
  rw[e6]
  rfl
theorem Zhp {c:List Int} (h:CodeL c):∃g m u,Zbc.f c=some (g,m,u)∧SmT g∧u.length≤9:=by
 obtain⟨g,m,u,l,e,a,b,_⟩:=ZgI h
 exact⟨g,m,u,by rw[Zbc.f_eq,e];rfl,a,b⟩
theorem Zfq {c:List Int} (h:CodeL c):∃g m u,Zaz.f c=some (g,m,u)∧SmT g∧u.length≤9:=by
 obtain⟨g,m,u,e,a⟩:=Zhp h
 exact⟨g,m,u,by rw[Zaz.f_eq,e];rfl,a⟩
theorem ZeR {c:List Int} (h:CodeL c):∃g m u x,Zas.f c=some (g,m,u,x)∧SmT g∧u.length≤9:=by
 obtain⟨h0,e0,s0⟩:=From_ h.ent h.len
 obtain⟨g,m,u,e,a⟩:=Zhp h
 obtain⟨x,j,h', e1,_⟩:=Near_ s0 h0 5 (by omega) (by omega)
 refine⟨g,m,u,x,?_,a⟩
 rw[Zas.f_eq,e]
 dsimp only[Option.bind_some]
 rw[e0]
 dsimp only[Option.bind_some]
 rw[e1]
 rfl
theorem Zeg {c:List Int} (h:CodeL c):∃g m u l,Zae.f c=some (g,m,u,l)∧SmT g∧u.length≤9∧l.length≤9:=by
 obtain⟨g,m,u,l,e,a⟩:=ZgI h
 exact⟨g,m,u,l,by rw[Zae.f_eq,e];rfl,a⟩
theorem Zgh {c:List Int} (h:CodeL c):∃g m u l,ZaR.f c=some (g,m,u,l)∧SmT g∧u.length≤9∧l.length≤9:=by
 obtain⟨g,m,u,l,e,a⟩:=ZgI h
 exact⟨g,m,u,l,by rw[ZaR.f_eq,e];rfl,a⟩
theorem Zd6 {c:List Int} (h:CodeL c):∃g m u l,Zaa.f c=some (g,m,u,l)∧SmT g∧u.length≤9∧l.length≤9:=by
 obtain⟨g,m,u,l,e,a⟩:=ZgI h
 exact⟨g,m,u,l,by rw[Zaa.f_eq,e];rfl,a⟩
end Go.Proofs.YthmcpmnhdbeahaaGreat.V
set_option maxHeartbeats 2000000
namespace Go.Proofs.YthmcpmnhdbeahaaGreat.V
open Go.RowKit Go.Proofs.YthmcpmnhdbeahaaGreat.D Go.Proofs.YthmcpmnhdbeahaaGreat.P
theorem Zft (g:List (List Int)) (m:Int) (u:List Int) (hl:g.length≤maxLen) (hr:∀r∈g,r.length≤maxLen) (hu:u.length≤maxLen) :
  ∃(R:List (List Int)) (c:Int),ZaT.f g m u=some (R,c)∧ZaM.f g m u=some (R,c)∧R.length≤1000000000∧∀r∈R,r.length≤1048576:=by
 have hA:=Zch g hl hr m u hu
 have hS:=Is_ g
 by_cases h:GM g m u
 ·
  obtain⟨hg,hm⟩:=h
  have hM:=Is02 hg m u hu
  have n8:=hg.n8;have hlu:=hm.len
  rw[ZbU ⟨hg,hm⟩]at hA
  rw[B_pos hm]at hM
  rw[B_pos hg]at hS
  obtain⟨A,a1,a2,a3,a4,a5⟩:=ZeY hg hm
  refine⟨A,0,?_,?_,by omega,fun r hr' => ?_⟩
  ·
   rw[ZaT.f_eq,hS,Option.bind_some,if_pos rfl,hM,Option.bind_some,if_pos rfl,a2];rfl
  ·
   rw[ZaM.f_eq,hA,Option.bind_some,if_pos rfl,a1];rfl
  ·
   have:=((a4 r).1 hr').len
   omega
 ·
  rw[ZbW h]at hA
  refine⟨[],1,?_,?_,by simp,fun r hr' => by cases hr'⟩
  ·
   by_cases h1:Grp g
   ·
    have hM:=Is02 h1 m u hu
    rw[B_neg fun k=>h ⟨h1,k⟩]at hM
    rw[B_pos h1]at hS
    rw[ZaT.f_eq,hS,Option.bind_some,if_pos rfl,hM,Option.bind_some,if_neg (by decide)]
   ·
    rw[B_neg h1]at hS
    rw[ZaT.f_eq,hS,Option.bind_some,if_neg (by decide)]
  ·
   rw[ZaM.f_eq,hA,Option.bind_some,if_neg (by decide)]
end Go.Proofs.YthmcpmnhdbeahaaGreat.V
set_option maxHeartbeats 4000000
namespace Go.Proofs.YthmcpmnhdbeahaaGreat.V
open Go.RowKit Go.Proofs.YthmcpmnhdbeahaaGreat.D Go.Proofs.YthmcpmnhdbeahaaGreat.P
def prm (m:Int) (u:List Int) (a:Int):List Int:=u.map fun x=>(x*a - a)%m
theorem Zcw (m:Int) (u:List Int) (a:Int):(prm m u a).length=u.length:=by simp[prm]
theorem Zf9 {m:Int} {u:List Int} {a:Int} {i:Nat} (h:i < u.length):rd (prm m u a) (i:Int)=(rd u (i:Int)*a - a)%m:=by
 rw[rd_get (by rw[Zcw];exact h),rd_get h];simp[prm]
theorem Zh0 {m:Int} (m0:0 < m) (u:List Int) (a:Int):AllIn m (prm m u a):=Zb8 fun x hx=>by
 obtain⟨y,_,rfl⟩:=List.mem_map.1 hx
 exact⟨Int.emod_nonneg _ (by omega),Int.emod_lt_of_pos _ m0⟩
def adm (m:Int) (v w:List Int):List Int:=(List.range v.length).map fun i:Nat=>(rd v (i:Int)+rd w (i:Int))%m
theorem Zb3 (m:Int) (v w:List Int):(adm m v w).length=v.length:=by simp[adm]
theorem ZdB {m:Int} {v w:List Int} {i:Nat} (h:i < v.length):rd (adm m v w) (i:Int)=(rd v (i:Int)+rd w (i:Int))%m:=by
 rw[rd_get (by rw[Zb3];exact h)];simp[adm]
theorem ZeL {g:List (List Int)} {m:Int} {u:List Int} (hg:Grp g) (hm:Mdl g m u) {a:Int} (a0:0≤a) (a1:a < m):ZaO.f m u a=some (prm m u a):=by
 have n8:=hg.n8;have m2:=hm.m2;have m12:=hm.m12;have hlu:=hm.len
 rw[ZaO.f_eq]
 have:=mapped (F:=fun z0=>(ZaD.f z0 a m u).map fun z=>z) (G:=fun x=>(x*a - a)%m) u (by omega) (fun x hx=>by
  obtain⟨i,i0,i1,rfl⟩:∃i:Int,0≤i∧i < u.length∧rd u i=x:=by
   obtain⟨i,hi,rfl⟩:=List.mem_iff_getElem.1 hx
   exact⟨i,by omega,by omega,rd_get hi⟩
  have hs:=ZcK hm i0 (by omega) a0 a1
  show Option.map _ (ZaD.f (rd u i) a m u)=_
  rw[ZaD.f_eq,if_neg (by omega),w64 (x:=rd u i*a) (by omega) (by omega),w64 (x:=rd u i*a+m) (by omega) (by omega),w64 (by omega) (by omega),ZcD (by omega),show rd u i*a+m - a=rd u i*a - a+m by omega,Int.add_emod_right]
  rfl)
 rw[this]
 rfl
theorem ZeS {g:List (List Int)} {m:Int} {u:List Int} (hg:Grp g) (hm:Mdl g m u) {a:Int} (a0:0≤a) (a1:a < m):Z5.f g m u a=some (prm m u a):=by
 have n8:=hg.n8;have m2:=hm.m2;have m12:=hm.m12;have hlu:=hm.len
 rw[Z5.f_eq]
 have:=up g.length (fun j=>Z5.l0 a (j:Int) g m u ((u.take j).map fun x=>(x*a - a)%m)) (fun j h=>by
  have l1:((u.take j).map fun x=>(x*a - a)%m).length=j:=by rw[List.length_map,List.length_take];omega
  have l2:∀x:Int,([x]:List Int).length=1:=fun _=>rfl
  have hs:=ZcK hm (x:=(j:Int)) (by omega) (by omega) a0 a1
  have hmod:=Mod_ (a:=rd u (j:Int)*a - a) (m:=m) (by omega) (by omega) (by omega) (by omega)
  rw[ZcR (by omega),List.map_append,List.map_singleton,Z5.l0_eq,Zao.f_eq,Option.bind_some,wn (j:=j) (by omega),w64 (x:=rd u (j:Int)*a) (by omega) (by omega),w64 (x:=rd u (j:Int)*a - a) (by omega) (by omega),hmod,Option.bind_some,l1,l2]
  ((with_reducible repeat (first|refine Zq (by first|assumption|omega|rfl|exact B_pos (by omega)) ?_|refine Zp (by first|assumption|omega|decide|exact B_not (by omega)) ?_|refine Zk (by first|assumption) ?_|dsimp only));first|done|(with_reducible rfl)|simp (disch:=omega) only[w64]|(show False;done)))
 have e:(u.take g.length).map (fun x=>(x*a - a)%m)=prm m u a:=by rw[List.take_of_length_le (by omega)];rfl
 simp only[Int.natCast_zero,List.take_zero,List.map_nil,e]at this
 rw[this,Z5.l0_eq,Zao.f_eq,Option.bind_some]
 ((with_reducible repeat (first|refine Zq (by first|assumption|omega|rfl|exact B_pos (by omega)) ?_|refine Zp (by first|assumption|omega|decide|exact B_not (by omega)) ?_|refine Zk (by first|assumption) ?_|dsimp only));first|done|(with_reducible rfl)|simp (disch:=omega) only[w64]|(show False;done))
end Go.Proofs.YthmcpmnhdbeahaaGreat.V
namespace Go.Proofs.YthmcpmnhdbeahaaGreat.V
open Go.RowKit Go.Proofs.YthmcpmnhdbeahaaGreat.D Go.Proofs.YthmcpmnhdbeahaaGreat.P
theorem ZlN (P:List (List Int)) (x:List Int) (Q:List (List Int)):row (P++x :: Q) (P.length:Int)=x:=by simp[row,List.getD_eq_getElem?_getD]
theorem snoc2 {P:List (List Int)} {n:Nat} (h:P.length=n+1):∃P' p,P=P' ++ [p]∧P'.length=n:=by
 have hne:P≠[]:=fun e=>by rw[e]at h;simp at h
 exact⟨P.dropLast,P.getLast hne,(List.dropLast_concat_getLast hne).symm,by rw[List.length_dropLast];omega⟩
theorem Zm3 {W:Nat} (hW:W≤1000000) {x:List Int} (hx:x.length=W):∀(n:Nat) (P Q:List (List Int)),P.length=n→(P++Q).Pairwise (fun r s=>Ll W r s)→(∀q∈Q,Ll W x q)→(∀r∈P++Q,r.length=W)→(P++Q).length≤1000000 →
  ∃A,Zbm.l0 (P++Q) x (n:Int)=some A∧A.Pairwise (fun r s=>Ll W r s)∧(∀r,r∈A↔r∈P++Q∨r=x)∧A.length≤(P++Q).length+1:=by
 intro n
 induction n with
 | zero =>
  intro P Q hP hs hq hr hl
  obtain rfl:=List.eq_nil_of_length_eq_zero hP
  rw[List.nil_append]at hs hr hl ⊢
  refine⟨x :: Q,?_,List.pairwise_cons.2 ⟨hq,hs⟩,fun r=>by rw[List.mem_cons];exact or_comm,by simp⟩
  rw[Zbm.l0_eq,if_neg (by omega),if_neg (by omega)]
  have z:((0:Nat):Int).toNat=0:=rfl
  simp only[z,List.take_zero,List.drop_zero,List.nil_append,List.length_nil,List.length_singleton,List.singleton_append]
  rw[if_pos (by omega),if_pos (by omega),if_pos (by omega),if_pos (by omega),if_pos (by omega),if_pos (by omega),if_pos (by omega)]
 | succ n ih =>
  intro P Q hP hs hq hr hl
  obtain⟨P', p,rfl,hP'⟩:=snoc2 hP
  have e0:(P' ++ [p])++Q=P' ++ p :: Q:=by simp
  have hpl:p.length=W:=hr p (by simp)
  have hrow:row ((P' ++ [p])++Q) (n:Int)=p:=by rw[e0,←hP'];exact ZlN _ _ _
  have hlen:((P' ++ [p])++Q).length=n+1+Q.length:=by simp;omega
  have w1:wrapI (((n+1:Nat):Int) - 1)=(n:Int):=by rw[w64 (by omega) (by omega)];omega
  have b1:=ZgF hx hpl hW
  have b2:=ZgF hpl hx hW
  rw[Zbm.l0_eq,if_pos (by omega),w1,hrow,if_pos (by omega),if_pos (by omega),b1,Option.bind_some]
  by_cases h1:Ll W x p
  ·
   rw[B_pos h1,if_pos rfl,e0]
   refine ih P' (p :: Q) hP' (by rw[←e0];exact hs) (fun q hq' => ?_) (fun r hr' => hr r (by rw[e0];exact hr')) (by rw[←e0];exact hl)
   rcases List.mem_cons.1 hq' with rfl|hq'
   ·
    exact h1
   ·
    exact hq q hq'
  ·
   rw[B_neg h1,if_neg (by decide),if_pos (by omega),if_pos (by omega),if_pos (by omega),b2,Option.bind_some]
   by_cases h2:Ll W p x
   ·
    rw[B_pos h2,if_pos rfl]
    have tk:((P' ++ [p])++Q).take (((n+1:Nat):Int)).toNat=P' ++ [p]:=by
     rw[Int.toNat_natCast,List.take_append_of_le_length (by omega),List.take_of_length_le (by omega)]
    have dr:((P' ++ [p])++Q).drop (((n+1:Nat):Int)).toNat=Q:=by
     rw[Int.toNat_natCast,List.drop_append_of_le_length (by omega),List.drop_of_length_le (by omega),List.nil_append]
    rw[tk,dr,List.nil_append]
    refine⟨((P' ++ [p])++[x])++Q,?_,?_,fun r => ?_,?_⟩
    ·
     have l1:((P' ++ [p]):List (List Int)).length=n+1:=hP
     have l2:([x]:List (List Int)).length=1:=rfl
     have l3:(((P' ++ [p])++[x]):List (List Int)).length=n+2:=by rw[List.length_append,hP,l2]
     rw[List.length_nil,l1,l2,l3,if_pos (by omega),if_pos (by omega),if_pos (by omega),if_pos (by omega),if_pos (by omega),if_pos (by omega),if_pos (by omega)]
    ·
     rw[List.pairwise_append]at hs ⊢
     obtain⟨s1,s2,s3⟩:=hs
     rw[List.pairwise_append]at s1
     obtain⟨t1,_,t3⟩:=s1
     have lt:∀a∈P' ++ [p],Ll W a x:=fun a ha=>by
      rcases List.mem_append.1 ha with h|h
      ·
       exact(t3 a h p (List.mem_singleton.2 rfl)).trans h2
      ·
       rw[List.mem_singleton.1 h];exact h2
     refine⟨?_,s2,fun a ha b hb => ?_⟩
     ·
      rw[List.pairwise_append]
      refine⟨by rw[List.pairwise_append];exact⟨t1,List.pairwise_singleton _ _,t3⟩,List.pairwise_singleton _ _,fun a ha b hb => ?_⟩
      rw[List.mem_singleton.1 hb]
      exact lt a ha
     ·
      rcases List.mem_append.1 ha with h|h
      ·
       exact s3 a h b hb
      ·
       rw[List.mem_singleton.1 h];exact hq b hb
    ·
     simp only[List.mem_append,List.mem_singleton]
     constructor
     ·
      rintro((h|h)|h)
      ·
       exact .inl (.inl h)
      ·
       exact .inr h
      ·
       exact .inl (.inr h)
     ·
      rintro((h|h)|h)
      ·
       exact .inl (.inl h)
      ·
       exact .inr h
      ·
       exact .inl (.inr h)
    ·
     simp only[List.length_append,List.length_singleton];omega
   ·
    rw[B_neg h2,if_neg (by decide)]
    refine⟨_,rfl,hs,fun r=>⟨.inl,fun h=>h.elim id fun e => ?_⟩,by omega⟩
    have:x=p:=by
     rcases Ll.tri W x p with q|q|q
     ·
      exact absurd q h1
     ·
      exact Zci hx hpl q
     ·
      exact absurd q h2
    rw[e,this]
    simp
theorem All_ {g:List (List Int)} {m:Int} {u:List Int} (hg:Grp g) (hm:Mdl g m u):∃A,Zbg.f g m u=some A∧A.Pairwise (fun r s=>Ll g.length r s)∧(∀r,r∈A↔∃a:Nat,(a:Int) < m∧r=prm m u (a:Int))∧A.length≤12:=by
 have n8:=hg.n8;have m2:=hm.m2;have m12:=hm.m12;have hlu:=hm.len
 obtain⟨M,hM⟩:∃M:Nat,m=(M:Int):=Int.eq_ofNat_of_zero_le (by omega)
 have main:∀j:Nat,j≤M→∃A:List (List Int),Zbg.l0 [] 0 g m u=Zbg.l0 A (j:Int) g m u∧A.Pairwise (fun r s=>Ll g.length r s)∧(∀r,r∈A↔∃a:Nat,a < j∧r=prm m u (a:Int))∧A.length≤j:=by
  intro j
  induction j with
  | zero=>intro _;exact⟨[],rfl,List.Pairwise.nil,fun r=>⟨fun h=>(by cases h),fun⟨a,h,_⟩=>by omega⟩,Nat.le_refl _⟩
  | succ j ih =>
   intro hj
   obtain⟨A,a1,a2,a3,a4⟩:=ih (by omega)
   have hp:=ZeS hg hm (a:=(j:Int)) (by omega) (by omega)
   obtain⟨A', b1,b2,b3,b4⟩:=Zm3 (W:=g.length) (by omega) (x:=prm m u (j:Int)) (by rw[Zcw,hlu]) A.length A [] rfl (by rw[List.append_nil];exact a2) (fun q hq=>by cases hq) (fun r hr=>by
    rw[List.append_nil]at hr
    obtain⟨a,_,rfl⟩:=(a3 r).1 hr
    rw[Zcw,hlu]) (by rw[List.append_nil];omega)
   rw[List.append_nil]at b1 b3 b4
   refine⟨A', ?_,b2,fun r => ?_,by omega⟩
   ·
    rw[a1,Zbg.l0_eq,if_pos (by omega),hp,Option.bind_some,Zbm.f_eq,b1,Option.bind_some,wn (j:=j) (by omega)]
   ·
    rw[b3,a3]
    constructor
    ·
     rintro(⟨a,ha,rfl⟩|rfl)
     ·
      exact⟨a,by omega,rfl⟩
     ·
      exact⟨j,by omega,rfl⟩
    ·
     rintro⟨a,ha,rfl⟩
     by_cases e:a=j
     ·
      exact .inr (by rw[e])
     ·
      exact .inl ⟨a,by omega,rfl⟩
 obtain⟨A,a1,a2,a3,a4⟩:=main M (Nat.le_refl _)
 refine⟨A,?_,a2,fun r => ?_,by omega⟩
 ·
  rw[Zbg.f_eq,a1,Zbg.l0_eq,if_neg (by omega)]
 ·
  rw[a3]
  exact⟨fun⟨a,h,e⟩=>⟨a,by omega,e⟩,fun⟨a,h,e⟩=>⟨a,by omega,e⟩⟩
theorem ZcL {g:List (List Int)} {m:Int} {u:List Int} (hg:Grp g) (hm:Mdl g m u):∃Ps,ZN.f m u=some Ps∧Ps.Pairwise (fun r s=>Ll g.length r s)∧(∀r,r∈Ps↔∃a:Nat,(a:Int) < m∧r=prm m u (a:Int))∧0 < Ps.length∧Ps.length≤12:=by
 have n8:=hg.n8;have m2:=hm.m2;have m12:=hm.m12;have hlu:=hm.len
 obtain⟨M,hM⟩:∃M:Nat,m=(M:Int):=Int.eq_ofNat_of_zero_le (by omega)
 obtain⟨xs,hxs⟩:∃xs:List (List Int),xs=(List.range M).map fun a:Nat=>prm m u (a:Int):=⟨_,rfl⟩
 have hxl:xs.length=M:=by rw[hxs];simp
 have hmem:∀r,r∈xs↔∃a:Nat,(a:Int) < m∧r=prm m u (a:Int):=fun r=>by
  rw[hxs,List.mem_map]
  constructor
  ·
   rintro⟨a,ha,rfl⟩;exact⟨a,by have:=List.mem_range.1 ha;omega,rfl⟩
  ·
   rintro⟨a,ha,rfl⟩;exact⟨a,List.mem_range.2 (by omega),rfl⟩
 have hW:∀r∈xs,r.length=g.length:=fun r hr=>by
  obtain⟨a,_,rfl⟩:=(hmem r).1 hr
  rw[Zcw,hlu]
 obtain⟨S,s1,s2,s3⟩:=Zh6 (f:=_root_.Go.Proofs.YthmcpmnhdbeahaaGreat.R.ZC.f) hW (C:=fun z0 z1=>(Zy.f z0 z1).map fun z=>z) (fun x y hx hy=>by
  obtain⟨c,c1,c2,_⟩:=ZgG hx hy (by omega)
  exact⟨c,by show Option.map _ (Zy.f x y)=_;rw[c1];rfl,c2⟩) (fun H L c' hs ho hl hH=>sort12 ho (by omega) hH)
 have hSW:∀r∈S,r.length=g.length:=fun r hr=>hW r (s3.mem_iff.1 hr)
 have hSl:S.length=M:=by rw[s3.length_eq,hxl]
 have hc:=Zhw (xs:=S) (by omega) (Q:=fun z0 z1=>(ZP.f z0 z1).map fun z=>z) (fun x hx y hy=>by
  show Option.map _ (ZP.f x y)=_
  rw[Zl3 _ _ (by rw[hSW x hx];omega)];rfl)
 have hlen:=Zj1 (fun n=>ct S n=ct S (n - 1)) S.length
 refine⟨_,?_,Zjq hSW s2 S.length (Nat.le_refl _),fun r => ?_,by rw[List.length_map];exact hlen.2 (by omega),by rw[List.length_map];omega⟩
 ·
  rw[ZN.f_eq]
  have:=up M (fun j=>ZN.l0 m (j:Int) m u ((List.range j).map fun a:Nat=>prm m u (a:Int))) (fun j h=>by
   have l1:((List.range j).map fun a:Nat=>prm m u (a:Int)).length=j:=by simp
   have l2:∀x:List Int,([x]:List (List Int)).length=1:=fun _=>rfl
   have hp:=ZeL hg hm (a:=(j:Int)) (by omega) (by omega)
   rw[List.range_succ,List.map_append,List.map_singleton,ZN.l0_eq,wn (j:=j) (by omega),hp,Option.bind_some,l1,l2]
   ((with_reducible repeat (first|refine Zq (by first|assumption|omega|rfl|exact B_pos (by omega)) ?_|refine Zp (by first|assumption|omega|decide|exact B_not (by omega)) ?_|refine Zk (by first|assumption) ?_|dsimp only));first|done|(with_reducible rfl)|simp (disch:=omega) only[w64]|(show False;done)))
  simp only[Int.natCast_zero,List.range_zero,List.map_nil,←hxs]at this
  have e1:ZC.f xs (fun z0 z1=>(Zy.f z0 z1).map fun z=>z)=some S:=s1
  have e2:Zl.f S (fun z0 z1=>(ZP.f z0 z1).map fun z=>z)=some _:=hc
  rw[this,ZN.l0_eq,if_neg (by omega),e1,Option.bind_some,e2,Option.bind_some]
 ·
  rw[Zj2 r S.length (Nat.le_refl _),←hmem,←s3.mem_iff]
  constructor
  ·
   rintro⟨i,hi,rfl⟩;exact List.mem_of_getElem? (Zdx hi)
  ·
   intro h
   obtain⟨i,hi,rfl⟩:=List.getElem_of_mem h
   exact⟨i,hi,Option.some.inj ((List.getElem?_eq_getElem hi).symm.trans (Zdx hi))⟩
end Go.Proofs.YthmcpmnhdbeahaaGreat.V
set_option maxHeartbeats 2000000
namespace Go.Proofs.YthmcpmnhdbeahaaGreat.V
open Go.RowKit Go.Proofs.YthmcpmnhdbeahaaGreat.D Go.Proofs.YthmcpmnhdbeahaaGreat.P
theorem ZeN (g:List (List Int)) (m:Int) (u:List Int) (hl:g.length≤maxLen) (hr:∀r∈g,r.length≤maxLen) (hu:u.length≤maxLen) :
  ∃(R:List (List Int)) (c:Int),ZaB.f g m u=some (R,c)∧Zam.f g m u=some (R,c)∧R.length≤1048576∧∀r∈R,r.length≤1048576:=by
 have hA:=Zch g hl hr m u hu
 have hS:=Is_ g
 by_cases h:GM g m u
 ·
  obtain⟨hg,hm⟩:=h
  have hM:=Is02 hg m u hu
  have n8:=hg.n8;have hlu:=hm.len
  rw[ZbU ⟨hg,hm⟩]at hA
  rw[B_pos hm]at hM
  rw[B_pos hg]at hS
  obtain⟨A,a1,a2,a3,a4⟩:=All_ hg hm
  obtain⟨Ps,p1,p2,p3,_,p5⟩:=ZcL hg hm
  obtain rfl:Ps=A:=Zet (fun r=>(p3 r).trans (a3 r).symm) p2 a2
  refine⟨Ps,0,?_,?_,by omega,fun r hr' => ?_⟩
  ·
   rw[ZaB.f_eq,hS,Option.bind_some,if_pos rfl,hM,Option.bind_some,if_pos rfl,a1];rfl
  ·
   rw[Zam.f_eq,hA,Option.bind_some,if_pos rfl,p1];rfl
  ·
   obtain⟨a,_,rfl⟩:=(p3 r).1 hr'
   rw[Zcw];omega
 ·
  rw[ZbW h]at hA
  refine⟨[],1,?_,?_,by simp,fun r hr' => by cases hr'⟩
  ·
   by_cases h1:Grp g
   ·
    have hM:=Is02 h1 m u hu
    rw[B_neg fun k=>h ⟨h1,k⟩]at hM
    rw[B_pos h1]at hS
    rw[ZaB.f_eq,hS,Option.bind_some,if_pos rfl,hM,Option.bind_some,if_neg (by decide)]
   ·
    rw[B_neg h1]at hS
    rw[ZaB.f_eq,hS,Option.bind_some,if_neg (by decide)]
  ·
   rw[Zam.f_eq,hA,Option.bind_some,if_neg (by decide)]
end Go.Proofs.YthmcpmnhdbeahaaGreat.V
set_option maxHeartbeats 4000000
namespace Go.Proofs.YthmcpmnhdbeahaaGreat.V
open Go Go.RowKit Go.Proofs.YthmcpmnhdbeahaaGreat.D Go.Proofs.YthmcpmnhdbeahaaGreat.P
noncomputable def kx (E:Nat→Prop):Nat→List Nat
 | 0=>[]
 | n+1=>ite_ (E n) (kx E n) (kx E n++[n])
theorem ZhK {E:Nat→Prop} {n:Nat} (h:E n):kx E (n+1)=kx E n:=by
 conv=>lhs;unfold kx
 rw[ZbU h]
theorem ZhJ {E:Nat→Prop} {n:Nat} (h:¬ E n):kx E (n+1)=kx E n++[n]:=by
 conv=>lhs;unfold kx
 rw[ZbW h]
theorem kx_lt (E:Nat→Prop):∀n,∀i∈kx E n,i < n:=by
 intro n
 induction n with
 | zero=>simp[kx]
 | succ n ih =>
  intro i hi
  by_cases h:E n
  ·
   rw[ZhK h]at hi;have:=ih i hi;omega
  ·
   rw[ZhJ h]at hi
   rcases List.mem_append.1 hi with hi|hi
   ·
    have:=ih i hi;omega
   ·
    rw[List.mem_singleton.1 hi];omega
theorem ZlD (E:Nat→Prop):∀n,(kx E n).Nodup:=by
 intro n
 induction n with
 | zero=>simp[kx]
 | succ n ih =>
  by_cases h:E n
  ·
   rw[ZhK h];exact ih
  ·
   rw[ZhJ h,List.nodup_append]
   refine⟨ih,by simp,fun a ha b hb => ?_⟩
   rw[List.mem_singleton.1 hb]
   have:=kx_lt E n a ha
   omega
theorem Zmf {E:Nat→Prop}:∀n,(∀i,i < n→¬ E i)→kx E n=List.range n:=by
 intro n
 induction n with
 | zero=>intro _;rfl
 | succ n ih=>intro h;rw[ZhJ (h n (by omega)),ih fun i hi=>h i (by omega),List.range_succ]
theorem Zl6 {xs:List Value}:∀k,k≤xs.length→(List.range k).map (hd xs)=xs.take k:=by
 intro k
 induction k with
 | zero=>intro _;simp
 | succ k ih=>intro hk;rw[List.range_succ,List.map_append,ih (by omega),Zkl (by omega)];rfl
theorem indexR {Q:Value→Option Bool} {xs:List Value} {E:Nat→Prop} (hQ:∀i,i < xs.length→Q (hd xs i)=some (B (E i))) (hN:xs.length≤1000000000):∀(n k:Nat),k+n=xs.length→(∀i,i < k→¬ E i) →
  (∃i,i < xs.length∧E i∧(∀j,j < i→¬ E j)∧_root_.Go.Proofs.YthmcpmnhdbeahaaGreat.R.Zh.l0 xs Q (xs.length:Int) (k:Int)=some (i:Int))∨((∀i,i < xs.length→¬ E i)∧_root_.Go.Proofs.YthmcpmnhdbeahaaGreat.R.Zh.l0 xs Q (xs.length:Int) (k:Int)=some (-1)):=by
 intro n
 induction n with
 | zero =>
  intro k hk h
  refine .inr ⟨fun i hi=>h i (by omega),?_⟩
  rw[_root_.Go.Proofs.YthmcpmnhdbeahaaGreat.R.Zh.l0_eq,if_neg (by omega)]
 | succ n ih =>
  intro k hk h
  have hq:=hQ k (by omega)
  have r1:Ty.rd .raw xs (k:Int)=hd xs k:=rdR _
  rw[_root_.Go.Proofs.YthmcpmnhdbeahaaGreat.R.Zh.l0_eq,r1,wn (j:=k) (by omega),hq,if_pos (by omega),if_pos (by omega),if_pos (by omega),Option.bind_some]
  by_cases e:E k
  ·
   rw[B_pos e,if_pos rfl]
   exact .inl ⟨k,by omega,e,h,rfl⟩
  ·
   rw[B_neg e,if_neg (by decide)]
   exact ih (k+1) (by omega) fun i hi=>by
    by_cases q:i=k
    ·
     rw[q];exact e
    ·
     exact h i (by omega)
theorem Zmw {Q:Value→Option Bool} {xs:List Value} {E:Nat→Prop} (hQ:∀i,i < xs.length→Q (hd xs i)=some (B (E i))) (hN:xs.length≤1000000000):_root_.Go.Proofs.YthmcpmnhdbeahaaGreat.R.Zi.f xs Q=some ((kx E xs.length).map (hd xs)):=by
 have loop:∀(n k:Nat) (r:List Value),k+n=xs.length→0 < xs.length→r.length=xs.length→(kx E k).length < k→r.take (kx E k).length=(kx E k).map (hd xs)→(∀i:Nat,k≤i→i < xs.length→hd r i=hd xs i) →
   _root_.Go.Proofs.YthmcpmnhdbeahaaGreat.R.Zi.l0 Q (((kx E k).length:Nat):Int) (k:Int) r=some ((kx E xs.length).map (hd xs)):=by
  intro n
  induction n with
  | zero =>
   intro k r hk h0 hr hc ht hs
   have e:k=xs.length:=by omega
   have tl:(r.take (kx E k).length++List.replicate (r.length - (kx E k).length) (Value.slice none 0 0)).length=r.length:=by
    rw[List.length_append,List.length_take,List.length_replicate];omega
   rw[_root_.Go.Proofs.YthmcpmnhdbeahaaGreat.R.Zi.l0_eq,Int.toNat_natCast]
   (with_reducible repeat (first|refine Zq (by first|assumption|omega|rfl|exact B_pos (by omega)) ?_|refine Zp (by first|assumption|omega|decide|exact B_not (by omega)) ?_|refine Zk (by first|assumption) ?_|dsimp only))
   rw[List.take_append_of_le_length (by rw[List.length_take];omega),List.take_take,Nat.min_self,ht,e]
  | succ n ih =>
   intro k r hk h0 hr hc ht hs
   have r1:Ty.rd .raw r (k:Int)=hd xs k:=(rdR _).trans (hs k (Nat.le_refl _) (by omega))
   have hq:=hQ k (by omega)
   by_cases h:E k
   ·
    rw[B_pos h]at hq
    have ec:kx E (k+1)=kx E k:=ZhK h
    have:=ih (k+1) r (by omega) h0 hr (by rw[ec];omega) (by rw[ec];exact ht) (fun i hi=>hs i (by omega))
    rw[ec]at this
    rw[_root_.Go.Proofs.YthmcpmnhdbeahaaGreat.R.Zi.l0_eq,wn (j:=k) (by omega),r1]
    (with_reducible repeat (first|refine Zq (by first|assumption|omega|rfl|exact B_pos (by omega)) ?_|refine Zp (by first|assumption|omega|decide|exact B_not (by omega)) ?_|refine Zk (by first|assumption) ?_|dsimp only))
    exact this
   ·
    rw[B_neg h]at hq
    have ec:kx E (k+1)=kx E k++[k]:=ZhJ h
    have el:(kx E (k+1)).length=(kx E k).length+1:=by rw[ec,List.length_append,List.length_singleton]
    have:=ih (k+1) (r.set (kx E k).length (hd xs k)) (by omega) h0 (by rw[List.length_set];exact hr) (by omega) (by
     rw[el,List.take_succ_eq_append_getElem (by rw[List.length_set];omega),List.take_set_of_le (Nat.le_refl _),ht,ec]
     simp) (fun i hi hi2=>by rw[ZhG (by omega)];exact hs i (by omega) hi2)
    rw[el]at this
    rw[_root_.Go.Proofs.YthmcpmnhdbeahaaGreat.R.Zi.l0_eq,wn (j:=k) (by omega),wn (j:=(kx E k).length) (by omega),r1,Int.toNat_natCast]
    (with_reducible repeat (first|refine Zq (by first|assumption|omega|rfl|exact B_pos (by omega)) ?_|refine Zp (by first|assumption|omega|decide|exact B_not (by omega)) ?_|refine Zk (by first|assumption) ?_|dsimp only))
    exact this
 have hm:(fun z0=>(Q z0).map fun z=>z)=Q:=by funext a;cases Q a <;> rfl
 rw[_root_.Go.Proofs.YthmcpmnhdbeahaaGreat.R.Zi.f_eq,_root_.Go.Proofs.YthmcpmnhdbeahaaGreat.R.Zh.f_eq,hm]
 rcases indexR hQ hN xs.length 0 (by omega) (fun i hi=>by omega)with ⟨i,i1,i2,i3,i4⟩|⟨h,i4⟩
 ·
  have hk:kx E (i+1)=List.range i:=by rw[ZhK i2,Zmf i i3]
  have hkl:(kx E (i+1)).length=i:=by rw[hk,List.length_range]
  have:=loop (xs.length - (i+1)) (i+1) xs (by omega) (by omega) rfl (by omega) (by rw[hkl,hk,Zl6 _ (by omega)]) (fun _ _ _=>rfl)
  rw[hkl]at this
  rw[show(0:Int)=((0:Nat):Int)from rfl,i4,Option.bind_some,if_neg (by omega),wn (j:=i) (by omega)]
  exact this
 ·
  rw[show(0:Int)=((0:Nat):Int)from rfl,i4,Option.bind_some,if_pos rfl,Zmf _ h,Zl6 _ (Nat.le_refl _),List.take_length]
theorem Zks {xs:List (List Int)} {p:List Int→Bool}:∀n,n≤xs.length→(kx (fun i=>p (ct xs i)=true) n).map (ct xs)=(xs.take n).filter fun x => !p x:=by
 intro n
 induction n with
 | zero=>intro _;simp[kx]
 | succ n ih =>
  intro hn
  have ht:xs.take (n+1)=xs.take n++[ct xs n]:=by
   rw[List.take_add_one,Zdx (by omega)];rfl
  rw[ht,List.filter_append,←ih (by omega)]
  by_cases h:p (ct xs n)=true
  ·
   rw[ZhK h];simp[h]
  ·
   rw[ZhJ h];simp[h]
theorem Zij {xs:List (List Int)} (hN:xs.length≤1000000000) {Q:List Int→Option Bool} {p:List Int→Bool} (hQ:∀x∈xs,Q x=some (p x)) :
  G1 _root_.Go.Proofs.YthmcpmnhdbeahaaGreat.R.Zi.f xs Q=some (xs.filter fun x => !p x):=by
 refine G1_eq fun hs c' hl hc => ?_
 have:=Zmw (Q:=c') (xs:=hs) (E:=fun i=>p (ct xs i)=true) (fun i hi=>by
  rw[hc i (by omega),hQ _ (List.mem_of_getElem? (Zdx (by omega)))]
  congr 1
  cases h:p (ct xs i)with
  | true=>rw[B_pos (show true=true from rfl)]
  | false=>rw[B_neg (show ¬ false=true by decide)]) (by omega)
 rw[hl]at this
 have hf:=Zks (xs:=xs) (p:=p) xs.length (Nat.le_refl _)
 rw[List.take_length]at hf
 exact⟨_,this,kx _ xs.length,ZlD _ _,kx_lt _ _,rfl,hf.symm⟩
end Go.Proofs.YthmcpmnhdbeahaaGreat.V
set_option maxHeartbeats 2000000
namespace Go.Proofs.YthmcpmnhdbeahaaGreat.V
open Go.RowKit Go.Proofs.YthmcpmnhdbeahaaGreat.D Go.Proofs.YthmcpmnhdbeahaaGreat.P
theorem ZiO {g:List (List Int)} {m:Int} {u l:List Int} (m2:2≤m) (m12:m≤12) (hl:l.length≤maxLen):Zaw.f g m u l=some (B (Nums g m l)):=by
 have hm:=Zc0
 rw[Zaw.f_eq]
 have hw:wrapI (m - 1)=m - 1:=w64 (by omega) (by omega)
 rw[Zcf (show Nums g m l↔(∀i:Int,0≤i→i < l.length→0≤rd l i∧rd l i < m)∧(l.length:Int)=g.length from⟨fun h=>⟨h.2,h.1⟩,fun h=>⟨h.2,h.1⟩⟩)]
 refine scanB l.length (fun i=>Zaw.l0 l i g m u) (fun i=>0≤rd l i∧rd l i < m) _ (fun i i0 i1 _ => ?_) (fun _ => ?_)
 ·
  refine⟨fun h => ?_,fun h => ?_⟩ <;> (rw[Zaw.l0_eq,hw]) <;> ((with_reducible repeat (first|refine Zq (by first|assumption|omega|rfl|exact B_pos (by omega)) ?_|refine Zp (by first|assumption|omega|decide|exact B_not (by omega)) ?_|refine Zk (by first|assumption|exact In_ _ _ _) ?_|dsimp only));first|done|(with_reducible rfl)|simp (disch:=omega) only[w64]|(show False;done))
 ·
  rw[Zaw.l0_eq]
  (with_reducible repeat (first|refine Zq (by first|assumption|omega|rfl|exact B_pos (by omega)) ?_|refine Zp (by first|assumption|omega|decide|exact B_not (by omega)) ?_|refine Zk (by first|assumption) ?_|dsimp only))
  rw[Zfu]
theorem ZeD {g:List (List Int)} {m:Int} {u l:List Int} (hl:l.length≤maxLen):Zbq.f g m u l=some (B (Nums g m l)):=by
 have ha:=areIn m l hl
 rw[Zbq.f_eq,Zan.f_eq,Option.bind_some]
 by_cases h:(l.length:Int)=g.length
 ·
  rw[Zcf (show Nums g m l↔AllIn m l from⟨fun k=>k.2,fun k=>⟨h,k⟩⟩)]
  (with_reducible repeat (first|refine Zq (by first|assumption|omega|rfl|exact B_pos (by omega)) ?_|refine Zp (by first|assumption|omega|decide|exact B_not (by omega)) ?_|refine Zk (by first|assumption) ?_|dsimp only))
  simp
 ·
  rw[B_neg fun k=>h k.1]
  ((with_reducible repeat (first|refine Zq (by first|assumption|omega|rfl|exact B_pos (by omega)) ?_|refine Zp (by first|assumption|omega|decide|exact B_not (by omega)) ?_|refine Zk (by first|assumption) ?_|dsimp only));first|done|(with_reducible rfl)|simp (disch:=omega) only[w64]|(show False;done))
theorem crossed_codes (g:List (List Int)) (hl:g.length≤maxLen) (hr:∀r∈g,r.length≤maxLen) (m:Int) (u:List Int) (hu:u.length≤maxLen) (l:List Int) (hx:l.length≤maxLen) :
  (Grp g∧Mdl g m u∧Nums g m l∧Crs g m u l∧ZaN.f g m u l=some 0∧Zbi.f g m u l=some 0) ∨
  ∃c:Int,¬ c=0∧ZaN.f g m u l=some c∧Zbi.f g m u l=some c:=by
 have hM:=Zch g hl hr m u hu
 have hS:=Is_ g
 rw[ZaN.f_eq,Zbi.f_eq,ZaC.f_eq,Zbs.f_eq]
 by_cases h:GM g m u
 rotate_left
 ·
  rw[ZbW h]at hM
  refine .inr ⟨1,by omega,by rw[hM];rfl,?_⟩
  by_cases h1:Grp g
  ·
   have h2:=Is02 h1 m u hu
   rw[B_neg fun k=>h ⟨h1,k⟩]at h2
   rw[hS,B_pos h1,Option.bind_some,if_pos rfl,h2];rfl
  ·
   rw[hS,B_neg h1];rfl
 obtain⟨hg,hm⟩:=h
 have h2:=Is02 hg m u hu
 have hn1:=ZeD (g:=g) (m:=m) (u:=u) hx
 have hn2:=ZiO (g:=g) (u:=u) hm.m2 hm.m12 hx
 rw[ZbU ⟨hg,hm⟩]at hM
 rw[hM,hS,B_pos hg,Option.bind_some,if_pos rfl,Option.bind_some,if_pos rfl,h2,B_pos hm,Option.bind_some,if_pos rfl,hn1,hn2]
 by_cases h3:Nums g m l
 rotate_left
 ·
  rw[B_neg h3]
  exact .inr ⟨2,by omega,rfl,rfl⟩
 have c1:=ZeB hg hm h3
 have c2:=ZiN hg hm h3
 rw[B_pos h3,Option.bind_some,if_pos rfl,Option.bind_some,if_pos rfl,Option.bind_some,if_pos rfl,c1,c2]
 by_cases h4:Crs g m u l
 ·
  rw[B_pos h4]
  exact .inl ⟨hg,hm,h3,h4,rfl,rfl⟩
 ·
  rw[B_neg h4]
  exact .inr ⟨5,by omega,rfl,rfl⟩
end Go.Proofs.YthmcpmnhdbeahaaGreat.V
set_option maxHeartbeats 4000000
namespace Go.Proofs.YthmcpmnhdbeahaaGreat.V
open Go.RowKit Go.Proofs.YthmcpmnhdbeahaaGreat.D Go.Proofs.YthmcpmnhdbeahaaGreat.P
def Cand (m:Int) (u l r:List Int):Prop:=∃a:Nat,(a:Int) < m∧r=adm m l (prm m u (a:Int))
def BestC (m:Int) (u l r:List Int):Prop:=Cand m u l r∧∀s,Cand m u l s→¬ Ll l.length s r
theorem BestC.uniq {m:Int} {u l r s:List Int} (h:BestC m u l r) (k:BestC m u l s):r=s:=by
 obtain⟨a,_,ha⟩:=h.1
 obtain⟨b,_,hb⟩:=k.1
 have lr:r.length=l.length:=by rw[ha,Zb3]
 have ls:s.length=l.length:=by rw[hb,Zb3]
 rcases Ll.tri l.length r s with q|q|q
 ·
  exact absurd q (k.2 r h.1)
 ·
  exact Zci lr ls q
 ·
  exact absurd q (h.2 s k.1)
theorem ZgN {m:Int} {v w:List Int} {j:Nat}:(List.range (j+1)).map (fun i:Nat=>(rd v (i:Int)+rd w (i:Int))%m)=(List.range j).map (fun i:Nat=>(rd v (i:Int)+rd w (i:Int))%m)++[(rd v (j:Int)+rd w (j:Int))%m]:=by
 rw[List.range_succ,List.map_append,List.map_singleton]
theorem ZiX {g:List (List Int)} {m:Int} {u l:List Int} (hg:Grp g) (hm:Mdl g m u) (hn:Nums g m l) {Ps:List (List Int)} (h0:0 < Ps.length) (h12:Ps.length≤12) (hP:∀r,r∈Ps↔∃a:Nat,(a:Int) < m∧r=prm m u (a:Int)):∃r,ZJ.f m u l Ps=some r∧BestC m u l r:=by
 have n8:=hg.n8;have n1:=hg.n1;have m2:=hm.m2;have m12:=hm.m12;have hlu:=hm.len;have hll:=hn.1;have hla:=hn.2
 have hrow:∀j:Nat,j < Ps.length→AllIn m (row Ps (j:Int))∧(row Ps (j:Int)).length=l.length∧Cand m u l (adm m l (row Ps (j:Int))):=fun j hj=>by
  obtain⟨a,ha,e⟩:=(hP _).1 (Zeq (show(0:Int)≤j by omega) (show(j:Int) < Ps.length by omega))
  exact⟨by rw[e];exact Zh0 (by omega) _ _,by rw[e,Zcw];omega,⟨a,ha,by rw[e]⟩⟩
 have l2' : ∀x:Int,([x]:List Int).length=1:=fun _=>rfl
 have inner1:∀j:Nat,j < Ps.length→ZJ.l1 l (row Ps (j:Int)) Ps (Ps.length:Int) (j:Int) l (l.length:Int) 0 m u []=ZJ.l2 l Ps (Ps.length:Int) ((j+1:Nat):Int) m u (adm m l (row Ps (j:Int))):=fun j hj=>by
  obtain⟨pa,pl,_⟩:=hrow j hj
  have:=up l.length (fun i=>ZJ.l1 l (row Ps (j:Int)) Ps (Ps.length:Int) (j:Int) l (l.length:Int) (i:Int) m u ((List.range i).map fun i:Nat=>(rd l (i:Int)+rd (row Ps (j:Int)) (i:Int))%m)) (fun i hi=>by
   have l1:((List.range i).map fun i:Nat=>(rd l (i:Int)+rd (row Ps (j:Int)) (i:Int))%m).length=i:=by simp
   have a:=hla (i:Int) (by omega) (by omega)
   have b:=pa (i:Int) (by omega) (by omega)
   rw[ZgN,ZJ.l1_eq,wn (j:=i) (by omega),w64 (x:=rd l (i:Int)+rd (row Ps (j:Int)) (i:Int)) (by omega) (by omega),ZcD (show 0≤rd l (i:Int)+rd (row Ps (j:Int)) (i:Int)by omega),l1,l2']
   clear a b
   ((with_reducible repeat (first|refine Zq (by first|assumption|omega|rfl|exact B_pos (by omega)) ?_|refine Zp (by first|assumption|omega|decide|exact B_not (by omega)) ?_|refine Zk (by first|assumption) ?_|dsimp only));first|done|(with_reducible rfl)|simp (disch:=omega) only[w64]|(show False;done)))
  simp only[Int.natCast_zero,List.range_zero,List.map_nil]at this
  rw[this,ZJ.l1_eq,wn (j:=j) (by omega),if_neg (by omega)]
  rfl
 have inner3:∀(j:Nat) (r1:List Int),j < Ps.length→r1.length=l.length→(Ll l.length (adm m l (row Ps (j:Int))) r1→ZJ.l3 l (row Ps (j:Int)) Ps (Ps.length:Int) (j:Int) l (l.length:Int) 0 m u r1 []=ZJ.l2 l Ps (Ps.length:Int) ((j+1:Nat):Int) m u (adm m l (row Ps (j:Int))))∧(¬ Ll l.length (adm m l (row Ps (j:Int))) r1→ZJ.l3 l (row Ps (j:Int)) Ps (Ps.length:Int) (j:Int) l (l.length:Int) 0 m u r1 []=ZJ.l2 l Ps (Ps.length:Int) ((j+1:Nat):Int) m u r1):=fun j r1 hj hr1=>by
  obtain⟨pa,pl,_⟩:=hrow j hj
  have:=up l.length (fun i=>ZJ.l3 l (row Ps (j:Int)) Ps (Ps.length:Int) (j:Int) l (l.length:Int) (i:Int) m u r1 ((List.range i).map fun i:Nat=>(rd l (i:Int)+rd (row Ps (j:Int)) (i:Int))%m)) (fun i hi=>by
   have l1:((List.range i).map fun i:Nat=>(rd l (i:Int)+rd (row Ps (j:Int)) (i:Int))%m).length=i:=by simp
   have a:=hla (i:Int) (by omega) (by omega)
   have b:=pa (i:Int) (by omega) (by omega)
   rw[ZgN,ZJ.l3_eq,wn (j:=i) (by omega),w64 (x:=rd l (i:Int)+rd (row Ps (j:Int)) (i:Int)) (by omega) (by omega),ZcD (show 0≤rd l (i:Int)+rd (row Ps (j:Int)) (i:Int)by omega),l1,l2']
   clear a b
   ((with_reducible repeat (first|refine Zq (by first|assumption|omega|rfl|exact B_pos (by omega)) ?_|refine Zp (by first|assumption|omega|decide|exact B_not (by omega)) ?_|refine Zk (by first|assumption) ?_|dsimp only));first|done|(with_reducible rfl)|simp (disch:=omega) only[w64]|(show False;done)))
  simp only[Int.natCast_zero,List.range_zero,List.map_nil]at this
  have e:(List.range l.length).map (fun i:Nat=>(rd l (i:Int)+rd (row Ps (j:Int)) (i:Int))%m)=adm m l (row Ps (j:Int)):=rfl
  obtain⟨c,c1,c2,_⟩:=ZgG (x:=adm m l (row Ps (j:Int))) (y:=r1) (W:=l.length) (Zb3 _ _ _) hr1 (by omega)
  rw[this,ZJ.l3_eq,wn (j:=j) (by omega),if_neg (by omega),e,if_pos (by omega),c1,Option.bind_some]
  exact⟨fun h=>if_pos (c2.2 h),fun h=>if_neg fun k=>h (c2.1 k)⟩
 have outer:∀(n j:Nat) (r1:List Int),j+n=Ps.length→0 < j→Cand m u l r1→(∀i:Nat,i < j→¬ Ll l.length (adm m l (row Ps (i:Int))) r1)→∃r,ZJ.l2 l Ps (Ps.length:Int) (j:Int) m u r1=some r∧Cand m u l r∧∀i:Nat,i < Ps.length→¬ Ll l.length (adm m l (row Ps (i:Int))) r:=by
  intro n
  induction n with
  | zero =>
   intro j r1 hj _ hc hb
   refine⟨r1,?_,hc,fun i hi=>hb i (by omega)⟩
   rw[ZJ.l2_eq]
   ((with_reducible repeat (first|refine Zq (by first|assumption|omega|rfl|exact B_pos (by omega)) ?_|refine Zp (by first|assumption|omega|decide|exact B_not (by omega)) ?_|refine Zk (by first|assumption) ?_|dsimp only));first|done|(with_reducible rfl)|simp (disch:=omega) only[w64]|(show False;done))
  | succ n ih =>
   intro j r1 hj j0 hc hb
   have hr1:r1.length=l.length:=by obtain⟨a,_,rfl⟩:=hc;rw[Zb3]
   obtain⟨k1,k2⟩:=inner3 j r1 (by omega) hr1
   by_cases h:Ll l.length (adm m l (row Ps (j:Int))) r1
   ·
    obtain⟨r,e,f⟩:=ih (j+1) _ (by omega) (by omega) (hrow j (by omega)).2.2 (fun i hi=>by
     by_cases e:i=j
     ·
      rw[e];exact Ll.irrefl
     ·
      exact fun q=>hb i (by omega) (q.trans h))
    refine⟨r,?_,f⟩
    have k:=k1 h
    rw[ZJ.l2_eq]
    (with_reducible repeat (first|refine Zq (by first|assumption|omega|rfl|exact B_pos (by omega)) ?_|refine Zp (by first|assumption|omega|decide|exact B_not (by omega)) ?_|refine Zk (by first|assumption) ?_|dsimp only))
    rw[k,e]
   ·
    obtain⟨r,e,f⟩:=ih (j+1) r1 (by omega) (by omega) hc (fun i hi=>by
     by_cases e:i=j
     ·
      rw[e];exact h
     ·
      exact hb i (by omega))
    refine⟨r,?_,f⟩
    have k:=k2 h
    rw[ZJ.l2_eq]
    (with_reducible repeat (first|refine Zq (by first|assumption|omega|rfl|exact B_pos (by omega)) ?_|refine Zp (by first|assumption|omega|decide|exact B_not (by omega)) ?_|refine Zk (by first|assumption) ?_|dsimp only))
    rw[k,e]
 obtain⟨r,e,f1,f2⟩:=outer (Ps.length - 1) 1 (adm m l (row Ps ((0:Nat):Int))) (by omega) (by omega) (hrow 0 h0).2.2 (fun i hi=>by rw[show i=0 by omega];exact Ll.irrefl)
 refine⟨r,?_,f1,fun s hs => ?_⟩
 ·
  have i1:=inner1 0 h0
  simp only[Int.natCast_zero,Nat.zero_add]at i1 e
  rw[ZJ.f_eq,ZJ.l0_eq]
  (with_reducible repeat (first|refine Zq (by first|assumption|omega|rfl|exact B_pos (by omega)) ?_|refine Zp (by first|assumption|omega|decide|exact B_not (by omega)) ?_|refine Zk (by first|assumption) ?_|dsimp only))
  rw[i1,e]
 ·
  obtain⟨a,ha,rfl⟩:=hs
  obtain⟨i,i0,i1,e⟩:=Zis ((hP _).2 ⟨a,ha,rfl⟩)
  have:=f2 i.toNat (by omega)
  rw[Int.toNat_of_nonneg i0,e]at this
  exact this
theorem Zeu {g:List (List Int)} {m:Int} {u l:List Int} (hm:Mdl g m u) (hn:Nums g m l):adm m l (prm m u ((0:Nat):Int))=l:=by
 have hlu:=hm.len;have hll:=hn.1
 refine ZfN (Zb3 _ _ _) fun i i0 i1 => ?_
 rw[Zb3]at i1
 obtain⟨n,rfl⟩:=Int.eq_ofNat_of_zero_le i0
 obtain⟨a0,a1⟩:=hn.2 (n:Int) i0 i1
 rw[ZdB (by omega),Zf9 (by omega)]
 simp only[Int.natCast_zero,Int.mul_zero,Int.sub_zero,Int.zero_emod,Int.add_zero]
 exact Int.emod_eq_of_lt a0 a1
theorem Zl2 {g:List (List Int)} {m:Int} {u l:List Int} (hg:Grp g) (hm:Mdl g m u) (hn:Nums g m l):∃r,Z8.f g m u l=some r∧BestC m u l r:=by
 have n8:=hg.n8;have n1:=hg.n1;have m2:=hm.m2;have m12:=hm.m12;have hlu:=hm.len;have hll:=hn.1;have hla:=hn.2
 have l2' : ∀x:Int,([x]:List Int).length=1:=fun _=>rfl
 have inner:∀(j:Nat) (r1:List Int),(j:Int) < m→r1.length=l.length→(Ll l.length (adm m l (prm m u (j:Int))) r1→Z8.l1 l (j:Int) 0 g m u r1 (prm m u (j:Int)) []=Z8.l0 l ((j+1:Nat):Int) g m u (adm m l (prm m u (j:Int))))∧(¬ Ll l.length (adm m l (prm m u (j:Int))) r1→Z8.l1 l (j:Int) 0 g m u r1 (prm m u (j:Int)) []=Z8.l0 l ((j+1:Nat):Int) g m u r1):=fun j r1 hj hr1=>by
  have pa:=Zh0 (show 0 < m by omega) u (j:Int)
  have pl:=Zcw m u (j:Int)
  have:=up l.length (fun i=>Z8.l1 l (j:Int) (i:Int) g m u r1 (prm m u (j:Int)) ((List.range i).map fun i:Nat=>(rd l (i:Int)+rd (prm m u (j:Int)) (i:Int))%m)) (fun i hi=>by
   have l1:((List.range i).map fun i:Nat=>(rd l (i:Int)+rd (prm m u (j:Int)) (i:Int))%m).length=i:=by simp
   have a:=hla (i:Int) (by omega) (by omega)
   have b:=pa (i:Int) (by omega) (by omega)
   have hmod:=Mod_ (a:=rd l (i:Int)+rd (prm m u (j:Int)) (i:Int)) (m:=m) (by omega) (by omega) (by omega) (by omega)
   rw[ZgN,Z8.l1_eq,wn (j:=i) (by omega),w64 (x:=rd l (i:Int)+rd (prm m u (j:Int)) (i:Int)) (by omega) (by omega),hmod,Option.bind_some,l1,l2']
   clear a b
   ((with_reducible repeat (first|refine Zq (by first|assumption|omega|rfl|exact B_pos (by omega)) ?_|refine Zp (by first|assumption|omega|decide|exact B_not (by omega)) ?_|refine Zk (by first|assumption) ?_|dsimp only));first|done|(with_reducible rfl)|simp (disch:=omega) only[w64]|(show False;done)))
  simp only[Int.natCast_zero,List.range_zero,List.map_nil]at this
  have e:(List.range l.length).map (fun i:Nat=>(rd l (i:Int)+rd (prm m u (j:Int)) (i:Int))%m)=adm m l (prm m u (j:Int)):=rfl
  have hb:=ZgF (x:=adm m l (prm m u (j:Int))) (y:=r1) (W:=l.length) (Zb3 _ _ _) hr1 (by omega)
  rw[this,Z8.l1_eq,wn (j:=j) (by omega),if_neg (by omega),e,hb,Option.bind_some]
  exact⟨fun h=>if_pos (B_pos h),fun h=>if_neg (by rw[B_neg h];decide)⟩
 have outer:∀(n j:Nat) (r1:List Int),((j+n:Nat):Int)=m→Cand m u l r1→(∀i:Nat,i < j→¬ Ll l.length (adm m l (prm m u (i:Int))) r1)→∃r,Z8.l0 l (j:Int) g m u r1=some r∧Cand m u l r∧∀i:Nat,(i:Int) < m→¬ Ll l.length (adm m l (prm m u (i:Int))) r:=by
  intro n
  induction n with
  | zero =>
   intro j r1 hj hc hb
   refine⟨r1,?_,hc,fun i hi=>hb i (by omega)⟩
   rw[Z8.l0_eq]
   ((with_reducible repeat (first|refine Zq (by first|assumption|omega|rfl|exact B_pos (by omega)) ?_|refine Zp (by first|assumption|omega|decide|exact B_not (by omega)) ?_|refine Zk (by first|assumption) ?_|dsimp only));first|done|(with_reducible rfl)|simp (disch:=omega) only[w64]|(show False;done))
  | succ n ih =>
   intro j r1 hj hc hb
   have hr1:r1.length=l.length:=by obtain⟨a,_,rfl⟩:=hc;rw[Zb3]
   obtain⟨k1,k2⟩:=inner j r1 (by omega) hr1
   have hp:=ZeS hg hm (a:=(j:Int)) (by omega) (by omega)
   by_cases h:Ll l.length (adm m l (prm m u (j:Int))) r1
   ·
    obtain⟨r,e,f⟩:=ih (j+1) _ (by omega) ⟨j,by omega,rfl⟩ (fun i hi=>by
     by_cases e:i=j
     ·
      rw[e];exact Ll.irrefl
     ·
      exact fun q=>hb i (by omega) (q.trans h))
    refine⟨r,?_,f⟩
    rw[Z8.l0_eq,if_pos (by omega),hp,Option.bind_some,k1 h,e]
   ·
    obtain⟨r,e,f⟩:=ih (j+1) r1 (by omega) hc (fun i hi=>by
     by_cases e:i=j
     ·
      rw[e];exact h
     ·
      exact hb i (by omega))
    refine⟨r,?_,f⟩
    rw[Z8.l0_eq,if_pos (by omega),hp,Option.bind_some,k2 h,e]
 obtain⟨M,hM⟩:∃M:Nat,m=(M:Int):=Int.eq_ofNat_of_zero_le (by omega)
 obtain⟨r,e,f1,f2⟩:=outer M 0 l (by omega) ⟨0,by omega,(Zeu hm hn).symm⟩ (fun i hi=>by omega)
 refine⟨r,?_,f1,fun s hs => ?_⟩
 ·
  have ho:ZaJ.f l=some l:=by
   rw[ZaJ.f_eq,if_pos (by simp only[List.length_nil];omega),List.nil_append]
  rw[Z8.f_eq,ho,Option.bind_some]
  exact e
 ·
  obtain⟨a,ha,rfl⟩:=hs
  exact f2 a ha
end Go.Proofs.YthmcpmnhdbeahaaGreat.V
namespace Go.Proofs.YthmcpmnhdbeahaaGreat.V
open Go Go.RowKit Go.Proofs.YthmcpmnhdbeahaaGreat.D Go.Proofs.YthmcpmnhdbeahaaGreat.P
theorem BestC.own {g:List (List Int)} {m:Int} {u l r:List Int} (hm:Mdl g m u) (hn:Nums g m l) (h:BestC m u l r):(r=l↔BestC m u l l)∧(Ll l.length r l↔¬ BestC m u l l):=by
 have hm2:=hm.m2
 have hc:Cand m u l l:=⟨0,by omega,(Zeu hm hn).symm⟩
 have e:r=l↔BestC m u l l:=⟨fun q=>by rw[q]at h;exact h,fun q=>h.uniq q⟩
 refine⟨e,?_⟩
 have hr:r.length=l.length:=by
  obtain⟨a,_,q⟩:=h.1
  rw[q,Zb3]
 constructor
 ·
  intro q k
  rw[e.2 k]at q
  exact Ll.irrefl q
 ·
  intro k
  rcases Ll.tri l.length r l with q|q|q
  ·
   exact q
  ·
   exact absurd (e.1 (Zci hr rfl q)) k
  ·
   exact absurd q (h.2 l hc)
noncomputable def keptL (m:Int) (u:List Int) (A:List (List Int)):List (List Int):=A.filter fun l=>B (BestC m u l l)
theorem Zi8 {g:List (List Int)} {m:Int} {u:List Int} (hg:Grp g) (hm:Mdl g m u) {A Ps:List (List Int)} (a4:∀r,r∈A↔ExC g m u [] r) (a5:A.length≤429981696) (p3:∀r,r∈Ps↔∃a:Nat,(a:Int) < m∧r=prm m u (a:Int)) (p4:0 < Ps.length) (p5:Ps.length≤12) :
  ZbN.f A (fun z0=>(Zai.f z0 m u Ps).map fun z=>z)=some (keptL m u A):=by
 have n8:=hg.n8
 have hn:∀l∈A,Nums g m l:=fun l hl' => ⟨by rw[((a4 l).1 hl').len],((a4 l).1 hl').ent⟩
 have hd:=Zij (xs:=A) (by omega) (Q:=fun z0=>(Zai.f z0 m u Ps).map fun z=>z) (p:=fun l => !B (BestC m u l l)) (fun l hl' => by
   have hnl:=hn l hl'
   have hll:l.length=g.length:=((a4 _).1 hl').len
   obtain⟨r,r1,r2⟩:=ZiX hg hm hnl p4 p5 p3
   obtain⟨q1,q2⟩:=r2.own hm hnl
   have rl:r.length=g.length:=by
    obtain⟨a,_,q⟩:=r2.1
    rw[q,Zb3,hll]
   show Option.map _ (Zai.f l m u Ps)=_
   rw[Zai.f_eq,r1,Option.bind_some,Zl3 _ _ (by omega),Option.bind_some]
   by_cases hB:BestC m u l l
   ·
    rw[B_pos (q1.2 hB),B_pos hB];rfl
   ·
    rw[B_neg (show ¬ r=l from fun k=>hB (q1.1 k)),B_neg hB];rfl)
 refine Eq.trans hd ?_
 unfold keptL
 congr 1
 apply List.filter_congr
 intro l _
 simp
theorem Zes (g:List (List Int)) (m:Int) (u:List Int) (hl:g.length≤maxLen) (hr:∀r∈g,r.length≤maxLen) (hu:u.length≤maxLen) :
  ∃(R:List (List Int)) (c:Int),ZM.f g m u=some (R,c)∧Zag.f g m u=some (R,c)∧R.length≤1000000000∧∀r∈R,r.length≤1048576:=by
 have hA:=Zch g hl hr m u hu
 have hS:=Is_ g
 by_cases h:GM g m u
 ·
  obtain⟨hg,hm⟩:=h
  have hM:=Is02 hg m u hu
  have n8:=hg.n8;have hlu:=hm.len
  rw[ZbU ⟨hg,hm⟩]at hA
  rw[B_pos hm]at hM
  rw[B_pos hg]at hS
  obtain⟨A,a1,a2,a3,a4,a5⟩:=ZeY hg hm
  obtain⟨Ps,p1,p2,p3,p4,p5⟩:=ZcL hg hm
  have hn:∀l∈A,Nums g m l:=fun l hl' => ⟨by rw[((a4 l).1 hl').len],((a4 l).1 hl').ent⟩
  have hlen:(keptL m u A).length≤A.length:=List.length_filter_le _ _
  refine⟨keptL m u A,0,?_,?_,by omega,fun r hr' => ?_⟩
  ·
   rw[ZM.f_eq,hS,Option.bind_some,if_pos rfl,hM,Option.bind_some,if_pos rfl,a2,Option.bind_some]
   have main:=up A.length (fun j=>ZM.l0 (j:Int) g m u A (keptL m u (A.take j))) (fun j hj=>by
    have hx:row A (j:Int)=A[j]:=ZdW hj
    have hnj:=hn _ (List.getElem_mem hj)
    have hjl:A[j].length=g.length:=((a4 _).1 (List.getElem_mem hj)).len
    obtain⟨r,r1,r2⟩:=Zl2 hg hm hnj
    obtain⟨q1,q2⟩:=r2.own hm hnj
    have rl:r.length=g.length:=by
     obtain⟨a,_,q⟩:=r2.1
     rw[q,Zb3,hjl]
    have hb:=ZgF rl hjl (by omega)
    rw[hjl]at q2
    have l2:∀x:List Int,([x]:List (List Int)).length=1:=fun _=>rfl
    have kl:(keptL m u (A.take j)).length≤j:=Nat.le_trans (List.length_filter_le _ _) (by rw[List.length_take];omega)
    have ek:keptL m u (A.take (j+1))=keptL m u (A.take j)++(if B (BestC m u A[j] A[j])=true then [A[j]]else []):=by
     unfold keptL
     rw[List.take_succ_eq_append_getElem hj,List.filter_append]
     congr 1
     rw[List.filter_cons,List.filter_nil]
    rw[ek,ZM.l0_eq,hx,r1,Option.bind_some,hb,Option.bind_some,l2,wn (j:=j) (by omega)]
    by_cases hB:BestC m u A[j] A[j]
    ·
     rw[B_pos hB,if_pos (c:=(true=true)) rfl,B_neg (show ¬ Ll g.length r A[j]from fun k=>q2.1 k hB)]
     ((with_reducible repeat (first|refine Zq (by first|assumption|omega|rfl|exact B_pos (by omega)) ?_|refine Zp (by first|assumption|omega|decide|exact B_not (by omega)) ?_|refine Zk (by first|assumption) ?_|dsimp only));first|done|(with_reducible rfl)|simp (disch:=omega) only[w64]|(show False;done))
    ·
     rw[B_neg hB,if_neg (c:=(false=true)) (by decide),List.append_nil,B_pos (q2.2 hB)]
     ((with_reducible repeat (first|refine Zq (by first|assumption|omega|rfl|exact B_pos (by omega)) ?_|refine Zp (by first|assumption|omega|decide|exact B_not (by omega)) ?_|refine Zk (by first|assumption) ?_|dsimp only));first|done|(with_reducible rfl)|simp (disch:=omega) only[w64]|(show False;done)))
   simp only[Int.natCast_zero,List.take_zero,List.take_length]at main
   show ZM.l0 0 g m u A (keptL m u [])=_
   rw[main,ZM.l0_eq,if_neg (by omega)]
  ·
   have e1:=Zi8 hg hm a4 a5 p3 p4 p5
   rw[Zag.f_eq,hA,Option.bind_some,if_pos rfl,p1,Option.bind_some,a1,Option.bind_some,e1]
   rfl
  ·
   have:=((a4 r).1 (List.mem_filter.1 hr').1).len
   omega
 ·
  rw[ZbW h]at hA
  refine⟨[],1,?_,?_,by simp,fun r hr' => by cases hr'⟩
  ·
   by_cases h1:Grp g
   ·
    have hM:=Is02 h1 m u hu
    rw[B_neg fun k=>h ⟨h1,k⟩]at hM
    rw[B_pos h1]at hS
    rw[ZM.f_eq,hS,Option.bind_some,if_pos rfl,hM,Option.bind_some,if_neg (by decide)]
   ·
    rw[B_neg h1]at hS
    rw[ZM.f_eq,hS,Option.bind_some,if_neg (by decide)]
  ·
   rw[Zag.f_eq,hA,Option.bind_some,if_neg (by decide)]
end Go.Proofs.YthmcpmnhdbeahaaGreat.V
set_option maxHeartbeats 2000000
namespace Go.Proofs.YthmcpmnhdbeahaaGreat.V
open Go.RowKit Go.Proofs.YthmcpmnhdbeahaaGreat.D Go.Proofs.YthmcpmnhdbeahaaGreat.P
theorem Zjx {F:Int→Option Bool} {p:Int→Bool} (xs:List Int) (hl:xs.length≤1048576) (hF:∀x∈xs,F x=some (p x)) :
  ((∀x∈xs,p x=false)∧Zh.f xs F=some (-1))∨∃i:Nat,i < xs.length∧p (rd xs i)=true∧(∀x∈xs.take i,p x=false)∧Zh.f xs F=some (i:Int):=by
 rw[Zh.f_eq]
 suffices H:∀d m:Nat,m+d=xs.length→(∀x∈xs.take m,p x=false)→((∀x∈xs,p x=false)∧Zh.l0 xs F (xs.length:Int) m=some (-1))∨∃i:Nat,i < xs.length∧p (rd xs i)=true∧(∀x∈xs.take i,p x=false)∧Zh.l0 xs F (xs.length:Int) m=some (i:Int)from
  H xs.length 0 (by omega) (by simp)
 intro d
 induction d with
 | zero =>
  intro m hd hp
  obtain rfl:m=xs.length:=by omega
  rw[List.take_length]at hp
  refine .inl ⟨hp,?_⟩
  rw[Zh.l0_eq]
  ((with_reducible repeat (first|refine Zq (by first|assumption|omega|rfl|exact B_pos (by omega)) ?_|refine Zp (by first|assumption|omega|decide|exact B_not (by omega)) ?_|refine Zk (by first|assumption) ?_|dsimp only));first|done|(with_reducible rfl)|simp (disch:=omega) only[w64]|(show False;done))
 | succ d ih =>
  intro m hd hp
  have hf:=hF (rd xs m) (ZcC (by omega) (by omega))
  cases h:p (rd xs m)with
  | true =>
   rw[h]at hf
   refine .inr ⟨m,by omega,h,hp,?_⟩
   rw[Zh.l0_eq]
   ((with_reducible repeat (first|refine Zq (by first|assumption|omega|rfl|exact B_pos (by omega)) ?_|refine Zp (by first|assumption|omega|decide|exact B_not (by omega)) ?_|refine Zk (by first|assumption) ?_|dsimp only));first|done|(with_reducible rfl)|simp (disch:=omega) only[w64]|(show False;done))
  | false =>
   rw[h]at hf
   have st:Zh.l0 xs F (xs.length:Int) m=Zh.l0 xs F (xs.length:Int) ((m+1:Nat):Int):=by
    rw[Zh.l0_eq,wn (j:=m) (by omega)]
    ((with_reducible repeat (first|refine Zq (by first|assumption|omega|rfl|exact B_pos (by omega)) ?_|refine Zp (by first|assumption|omega|decide|exact B_not (by omega)) ?_|refine Zk (by first|assumption) ?_|dsimp only));first|done|(with_reducible rfl)|simp (disch:=omega) only[w64]|(show False;done))
   rw[st]
   refine ih (m+1) (by omega) fun x hx => ?_
   rw[ZcR (by omega)]at hx
   rcases List.mem_append.1 hx with hx|hx
   ·
    exact hp x hx
   ·
    rw[List.mem_singleton.1 hx];exact h
theorem Zjt {F:Int→Option Bool} {p:Int→Bool} (xs:List Int) (hl:xs.length≤1048576) (hF:∀x∈xs,F x=some (p x)):Zi.f xs F=some (xs.filter fun x => !p x):=by
 have hi:=Zjx (F:=fun z0=>(F z0).map fun z=>z) (p:=p) xs hl (fun x hx=>by
  show Option.map _ (F x)=_
  rw[hF x hx];rfl)
 rw[Zi.f_eq]
 rcases hi with ⟨h,e⟩|⟨i,i1,hpi,hp,e⟩
 ·
  rw[e,Option.bind_some,if_pos rfl,List.filter_eq_self.2 fun x hx=>by rw[h x hx];rfl]
 rw[e,Option.bind_some,if_neg (by omega),wn (j:=i) (by omega)]
 have fil:∀m:Nat,(xs.take m).filter (fun x => !p x)=(xs.take m).filter (fun x => !p x):=fun _=>rfl
 have H:∀d m:Nat,m+d=xs.length→∀(k:Nat) (r:List Int),k < m→r.length=xs.length→r.take k=(xs.take m).filter (fun x => !p x)→r.drop m=xs.drop m→Zi.l0 F (k:Int) (m:Int) r=some (xs.filter fun x => !p x):=by
  intro d
  induction d with
  | zero =>
   intro m hd k r hk hr h1 _
   obtain rfl:m=xs.length:=by omega
   rw[List.take_length]at h1
   have l1:(r.take k++List.replicate (r.length - k) 0).length=xs.length:=by rw[List.length_append,List.length_take,List.length_replicate];omega
   have e2:(r.take k++List.replicate (r.length - k) 0).take k=r.take k:=by
    rw[List.take_append_of_le_length (by rw[List.length_take];omega),List.take_take,Nat.min_self]
   rw[Zi.l0_eq,Int.toNat_natCast,l1,e2,←h1]
   ((with_reducible repeat (first|refine Zq (by first|assumption|omega|rfl|exact B_pos (by omega)) ?_|refine Zp (by first|assumption|omega|decide|exact B_not (by omega)) ?_|refine Zk (by first|assumption) ?_|dsimp only));first|done|(with_reducible rfl)|simp (disch:=omega) only[w64]|(show False;done))
  | succ d ih =>
   intro m hd k r hk hr h1 h2
   have hrx:rd r (m:Int)=rd xs (m:Int):=by
    have hm1:m < r.length:=by omega
    have hm2:m < xs.length:=by omega
    have:=congrArg List.head? h2
    rw[ZfJ hm1,ZfJ hm2]at this
    simpa using this
   have hd2:r.drop (m+1)=xs.drop (m+1):=by
    have hm1:m < r.length:=by omega
    have hm2:m < xs.length:=by omega
    have:=congrArg List.tail h2
    rw[ZfJ hm1,ZfJ hm2]at this
    simpa using this
   have hf:=hF (rd xs m) (ZcC (by omega) (by omega))
   have tk:=ZcR (xs:=xs) (m:=m) (by omega)
   rw[Zi.l0_eq,hrx,hf,Option.bind_some,wn (j:=m) (by omega),wn (j:=k) (by omega),Int.toNat_natCast]
   cases h:p (rd xs m)with
   | true =>
    have:=ih (m+1) (by omega) k r (by omega) hr (by rw[tk,List.filter_append,h1];simp[h]) hd2
    (with_reducible repeat (first|refine Zq (by first|assumption|omega|rfl|exact B_pos (by omega)) ?_|refine Zp (by first|assumption|omega|decide|exact B_not (by omega)) ?_|refine Zk (by first|assumption) ?_|dsimp only))
    exact this
   | false =>
    have:=ih (m+1) (by omega) (k+1) (r.set k (rd xs m)) (by omega) (by rw[List.length_set,hr]) (by
     rw[tk,List.filter_append,←h1,List.take_succ_eq_append_getElem (by rw[List.length_set];omega),List.getElem_set_self,List.take_set_of_le (Nat.le_refl _)]
     simp[h]) (by rw[List.drop_set_of_lt (by omega)];exact hd2)
    (with_reducible repeat (first|refine Zq (by first|assumption|omega|rfl|exact B_pos (by omega)) ?_|refine Zp (by first|assumption|omega|decide|exact B_not (by omega)) ?_|refine Zk (by first|assumption) ?_|dsimp only))
    exact this
 refine H (xs.length - (i+1)) (i+1) (by omega) i xs (by omega) rfl ?_ rfl
 rw[ZcR i1,List.filter_append,List.filter_eq_self.2 fun x hx=>by rw[hp x hx];rfl]
 simp[hpi]
def kept (n:Nat) (p:Nat→Bool):List Int:=((List.range n).filter p).map fun i:Nat=>(i:Int)
theorem Zkp (n:Nat) (p:Nat→Bool):kept (n+1) p=kept n p++(if p n=true then [(n:Int)]else []):=by
 unfold kept
 rw[List.range_succ,List.filter_append,List.map_append,List.filter_cons,List.filter_nil]
 split <;> rfl
theorem Zfy (n:Nat) (p:Nat→Bool):(kept n p).length≤n:=by
 rw[kept,List.length_map]
 exact Nat.le_trans (List.length_filter_le _ _) (by simp)
theorem those {g:List (List Int)} (hn:g.length≤1048576) {F:Int→Option Bool} {p:Nat→Bool} (hF:∀i:Nat,i < g.length→F (i:Int)=some (p i)):Za7.f g F=some (kept g.length p):=by
 have hd:=Zjt (F:=fun z0=>(ZaP.f z0 (fun u0=>(F u0).map fun z=>z)).map fun z=>z) (p:=fun x => !p x.toNat) ((List.range g.length).map fun i:Nat=>(i:Int)) (by rw[List.length_map,List.length_range];exact hn) (fun x hx=>by
  obtain⟨i,hi,rfl⟩:=List.mem_map.1 hx
  have hi:=List.mem_range.1 hi
  show Option.map _ (ZaP.f (i:Int) _)=_
  rw[ZaP.f_eq,hF i hi]
  simp)
 rw[Za7.f_eq,Zan.f_eq,Option.bind_some,counting hn,Option.bind_some,hd,Option.bind_some,kept,List.filter_map]
 congr 2
 refine List.filter_congr fun i _ => ?_
 simp
end Go.Proofs.YthmcpmnhdbeahaaGreat.V
namespace Go.Proofs.YthmcpmnhdbeahaaGreat.V
open Go.RowKit Go.Proofs.YthmcpmnhdbeahaaGreat.D Go.Proofs.YthmcpmnhdbeahaaGreat.P
theorem Zd7 (g:List (List Int)) (m:Int) (u l:List Int) (hl:g.length≤maxLen) (hr:∀r∈g,r.length≤maxLen) (hu:u.length≤maxLen) (hx:l.length≤maxLen) :
  ∃(R:List Int) (e:Int),ZQ.f g m u l=some (R,e)∧Zak.f g m u l=some (R,e)∧R.length≤1048576:=by
 rw[ZQ.f_eq,Zak.f_eq]
 rcases crossed_codes g hl hr m u hu l hx with ⟨hg,hm,hn,hc,cI,cS⟩|⟨c,c0,cI,cS⟩
 rotate_left
 ·
  exact⟨[],c,by((with_reducible repeat (first|refine Zq (by first|assumption|omega|rfl|exact B_pos (by omega)) ?_|refine Zp (by first|assumption|omega|decide|exact B_not (by omega)) ?_|refine Zk (by first|assumption) ?_|dsimp only));first|done|(with_reducible rfl)|simp (disch:=omega) only[w64]|(show False;done)),by((with_reducible repeat (first|refine Zq (by first|assumption|omega|rfl|exact B_pos (by omega)) ?_|refine Zp (by first|assumption|omega|decide|exact B_not (by omega)) ?_|refine Zk (by first|assumption) ?_|dsimp only));first|done|(with_reducible rfl)|simp (disch:=omega) only[w64]|(show False;done)),by simp⟩
 have n8:=hg.n8;have hnl:=hn.1
 have hk:=Zfy g.length fun i=>decide (rd l (i:Int)=0)
 have hT:=those (g:=g) (by omega) (F:=fun z0=>(Z4.f z0 l).map fun z=>z) (p:=fun i=>decide (rd l (i:Int)=0)) (fun i hi=>by
  show Option.map _ (Z4.f (i:Int) l)=_
  have:Z4.f (i:Int) l=some (decide (rd l (i:Int)=0)):=by rw[Z4.f_eq];((with_reducible repeat (first|refine Zq (by first|assumption|omega|rfl|exact B_pos (by omega)) ?_|refine Zp (by first|assumption|omega|decide|exact B_not (by omega)) ?_|refine Zk (by first|assumption) ?_|dsimp only));first|done|(with_reducible rfl)|simp (disch:=omega) only[w64]|(show False;done))
  rw[this];rfl)
 refine⟨kept g.length fun i=>decide (rd l (i:Int)=0),0,?_,by((with_reducible repeat (first|refine Zq (by first|assumption|omega|rfl|exact B_pos (by omega)) ?_|refine Zp (by first|assumption|omega|decide|exact B_not (by omega)) ?_|refine Zk (by first|assumption) ?_|dsimp only));first|done|(with_reducible rfl)|simp (disch:=omega) only[w64]|(show False;done)),by omega⟩
 have:=up g.length (fun j=>ZQ.l0 l (j:Int) g (kept j fun i=>decide (rd l (i:Int)=0))) (fun j hj=>by
  have l1:=Zfy j fun i=>decide (rd l (i:Int)=0)
  have l2:∀x:Int,([x]:List Int).length=1:=fun _=>rfl
  rw[Zkp,ZQ.l0_eq,Zao.f_eq,Option.bind_some,l2,wn (j:=j) (by omega)]
  by_cases h:rd l (j:Int)=0
  ·
   rw[if_pos (c:=decide (rd l (j:Int)=0)=true) (decide_eq_true h)]
   ((with_reducible repeat (first|refine Zq (by first|assumption|omega|rfl|exact B_pos (by omega)) ?_|refine Zp (by first|assumption|omega|decide|exact B_not (by omega)) ?_|refine Zk (by first|assumption) ?_|dsimp only));first|done|(with_reducible rfl)|simp (disch:=omega) only[w64]|(show False;done))
  ·
   rw[if_neg (c:=decide (rd l (j:Int)=0)=true) (by simpa using h),List.append_nil]
   ((with_reducible repeat (first|refine Zq (by first|assumption|omega|rfl|exact B_pos (by omega)) ?_|refine Zp (by first|assumption|omega|decide|exact B_not (by omega)) ?_|refine Zk (by first|assumption) ?_|dsimp only));first|done|(with_reducible rfl)|simp (disch:=omega) only[w64]|(show False;done)))
 have k0:kept 0 (fun i=>decide (rd l (i:Int)=0))=[]:=rfl
 simp only[Int.natCast_zero,k0]at this
 (with_reducible repeat (first|refine Zq (by first|assumption|omega|rfl|exact B_pos (by omega)) ?_|refine Zp (by first|assumption|omega|decide|exact B_not (by omega)) ?_|refine Zk (by first|assumption) ?_|dsimp only))
 rw[this,ZQ.l0_eq,Zao.f_eq,Option.bind_some]
 ((with_reducible repeat (first|refine Zq (by first|assumption|omega|rfl|exact B_pos (by omega)) ?_|refine Zp (by first|assumption|omega|decide|exact B_not (by omega)) ?_|refine Zk (by first|assumption) ?_|dsimp only));first|done|(with_reducible rfl)|simp (disch:=omega) only[w64]|(show False;done))
end Go.Proofs.YthmcpmnhdbeahaaGreat.V
namespace Go.Proofs.YthmcpmnhdbeahaaGreat.V
open Go.RowKit Go.Proofs.YthmcpmnhdbeahaaGreat.D
end Go.Proofs.YthmcpmnhdbeahaaGreat.V
set_option maxHeartbeats 4000000
namespace Go.Proofs.YthmcpmnhdbeahaaGreat.V
open Go.RowKit Go.Proofs.YthmcpmnhdbeahaaGreat.D Go.Proofs.YthmcpmnhdbeahaaGreat.P
def Pr (g:List (List Int)) (m p:Int):Prop:=0≤p∧p < g.length*m
theorem Pr.parts {g:List (List Int)} {m p:Int} (hm:0 < m) (h:Pr g m p):(0≤p / m∧p / m < g.length)∧0≤p%m∧p%m < m:=by
 obtain⟨a,b,c,d⟩:=ZjK hm h.1 h.2
 exact⟨⟨a,b⟩,c,d⟩
theorem ZfM {m a b:Int} (h:m∣a - b):a%m=b%m:=Int.emod_eq_emod_iff_emod_sub_eq_zero.2 (Int.emod_eq_zero_of_dvd h)
theorem Zen (m a:Int):m∣a - a%m:=Int.dvd_self_sub_emod
theorem Pr.zero {g:List (List Int)} {m:Int} {u:List Int} (hg:Grp g) (hm:Mdl g m u):Pr g m 0:=by
 have n1:=hg.n1;have m2:=hm.m2
 have:=Int.mul_pos (show(0:Int) < g.length by omega) (show 0 < m by omega)
 exact⟨Int.le_refl _,this⟩
end Go.Proofs.YthmcpmnhdbeahaaGreat.V
namespace Go.Proofs.YthmcpmnhdbeahaaGreat.V
open Go.RowKit Go.Proofs.YthmcpmnhdbeahaaGreat.D Go.Proofs.YthmcpmnhdbeahaaGreat.P
theorem adm_rd' {m:Int} {v w:List Int} {i:Nat} (h:i < v.length):∃k:Int,rd (adm m v w) (i:Int)=rd v (i:Int)+rd w (i:Int)+m*k:=by
 obtain⟨k,hk⟩:=Zen m (rd v (i:Int)+rd w (i:Int))
 exact⟨-k,by rw[ZdB h,Int.mul_neg];omega⟩
theorem prm_rd' {m:Int} {u:List Int} {a:Int} {i:Nat} (h:i < u.length):∃k:Int,rd (prm m u a) (i:Int)=rd u (i:Int)*a - a+m*k:=by
 obtain⟨k,hk⟩:=Zen m (rd u (i:Int)*a - a)
 exact⟨-k,by rw[Zf9 h,Int.mul_neg];omega⟩
theorem ZgM {m:Int} (m0:0 < m) {u l:List Int} (hl:l.length=u.length) (a b c:Int) (hc:m∣a+b - c):adm m (adm m l (prm m u a)) (prm m u b)=adm m l (prm m u c):=by
 refine ZfN (by rw[Zb3,Zb3,Zb3]) fun i i0 i1 => ?_
 rw[Zb3,Zb3]at i1
 obtain⟨n,rfl⟩:=Int.eq_ofNat_of_zero_le i0
 have hn:n < l.length:=by omega
 rw[ZdB (by rw[Zb3];exact hn),ZdB (w:=prm m u c) hn]
 refine ZfM ?_
 obtain⟨k1,e1⟩:=adm_rd' (m:=m) (v:=l) (w:=prm m u a) hn
 obtain⟨k2,e2⟩:=prm_rd' (m:=m) (u:=u) (a:=a) (i:=n) (by omega)
 obtain⟨k3,e3⟩:=prm_rd' (m:=m) (u:=u) (a:=b) (i:=n) (by omega)
 obtain⟨k4,e4⟩:=prm_rd' (m:=m) (u:=u) (a:=c) (i:=n) (by omega)
 obtain⟨q,hq⟩:=hc
 have hu:rd u (n:Int)*a+rd u (n:Int)*b - rd u (n:Int)*c=m*(rd u (n:Int)*q):=by
  rw[←Int.mul_add,←Int.mul_sub,hq,Int.mul_left_comm]
 refine⟨k1+k2+k3 - k4+rd u (n:Int)*q - q,?_⟩
 rw[e1,e2,e3,e4]
 simp only[Int.mul_add,Int.mul_sub]
 omega
theorem ZeX {g:List (List Int)} {m:Int} {u l:List Int} (hm:Mdl g m u) (hn:Nums g m l) {a:Int} (a0:0≤a) (r:List Int):Cand m u (adm m l (prm m u a)) r↔Cand m u l r:=by
 have m2:=hm.m2;have hlu:=hm.len;have hll:=hn.1
 have hl:l.length=u.length:=by omega
 constructor
 ·
  rintro⟨b,hb,rfl⟩
  have k0:=Int.emod_nonneg (a+b) (show m≠0 by omega)
  have k1:=Int.emod_lt_of_pos (a+b) (show 0 < m by omega)
  exact⟨((a+b)%m).toNat,by omega,ZgM (by omega) hl a b _ (by rw[Int.toNat_of_nonneg k0];exact Zen m _)⟩
 ·
  rintro⟨c,hc,rfl⟩
  have k0:=Int.emod_nonneg ((c:Int) - a) (show m≠0 by omega)
  have k1:=Int.emod_lt_of_pos ((c:Int) - a) (show 0 < m by omega)
  refine⟨(((c:Int) - a)%m).toNat,by omega,(ZgM (by omega) hl a _ c ?_).symm⟩
  rw[Int.toNat_of_nonneg k0]
  obtain⟨k,hk⟩:=Zen m ((c:Int) - a)
  exact⟨-k,by rw[Int.mul_neg];omega⟩
theorem ZeV {g:List (List Int)} {m:Int} {u l:List Int} (hm:Mdl g m u) (hn:Nums g m l) {a:Int} (a0:0≤a) (r:List Int):BestC m u (adm m l (prm m u a)) r↔BestC m u l r:=by
 unfold BestC
 rw[ZeX hm hn a0,Zb3]
 exact and_congr Iff.rfl ⟨fun h s hs=>h s ((ZeX hm hn a0 s).2 hs),fun h s hs=>h s ((ZeX hm hn a0 s).1 hs)⟩
theorem Crs.adm {g:List (List Int)} {m:Int} {u l:List Int} (hg:Grp g) (hm:Mdl g m u) (hn:Nums g m l) (hc:Crs g m u l) (a:Int):Crs g m u (adm m l (prm m u a))∧Nums g m (V.adm m l (prm m u a)):=by
 have m2:=hm.m2;have hlu:=hm.len;have hll:=hn.1
 have hr:∀x:Int,0≤x→x < g.length→∃k:Int,rd (V.adm m l (prm m u a)) x=rd l x+rd u x*a - a+m*k:=fun x x0 x1=>by
  obtain⟨n,rfl⟩:=Int.eq_ofNat_of_zero_le x0
  obtain⟨k1,e1⟩:=adm_rd' (m:=m) (v:=l) (w:=prm m u a) (i:=n) (by omega)
  obtain⟨k2,e2⟩:=prm_rd' (m:=m) (u:=u) (a:=a) (i:=n) (by omega)
  exact⟨k1+k2,by rw[e1,e2,Int.mul_add];omega⟩
 have hin:AllIn m (V.adm m l (prm m u a)):=Zb8 fun x hx=>by
  obtain⟨i,_,rfl⟩:=List.mem_map.1 hx
  exact⟨Int.emod_nonneg _ (by omega),Int.emod_lt_of_pos _ (by omega)⟩
 refine⟨fun x x0 x1 y y0 y1 => ?_,by rw[Zb3];exact hll,hin⟩
 obtain⟨t0,t1⟩:=hg.ent x y x0 x1 y0 y1
 obtain⟨c0,c1⟩:=hin (T g x y) t0 (by rw[Zb3];omega)
 obtain⟨k1,e1⟩:=hr x x0 x1
 obtain⟨k2,e2⟩:=hr y y0 y1
 obtain⟨k3,e3⟩:=hr (T g x y) t0 t1
 rw[←Int.emod_eq_of_lt c0 c1]
 refine ZfM ?_
 have h1:=hc x x0 x1 y y0 y1
 obtain⟨k4,e4⟩:=Zen m (rd l x+rd u x*rd l y)
 have h2:=hm.hom x x0 (by omega) y y0 (by omega)
 obtain⟨k5,e5⟩:=Zen m (rd u x*rd u y)
 rw[←h1]at e4
 rw[←h2]at e5
 refine⟨k3 - k1 - rd u x*k2 - k4 - k5*a,?_⟩
 rw[e1,e2,e3]
 have e6:rd u (T g x y)*a=rd u x*rd u y*a - m*(k5*a):=by rw[←Int.mul_assoc,←Int.sub_mul];congr 1;omega
 have e7:rd u x*(rd l y+rd u y*a - a+m*k2)=rd u x*rd l y+rd u x*rd u y*a - rd u x*a+m*(rd u x*k2):=by
  rw[Int.mul_add,Int.mul_sub,Int.mul_add,Int.mul_assoc,Int.mul_left_comm (rd u x) m k2]
 rw[e7,e6]
 simp only[Int.mul_sub]
 omega
end Go.Proofs.YthmcpmnhdbeahaaGreat.V
namespace Go.Proofs.YthmcpmnhdbeahaaGreat.V
open Go.RowKit Go.Proofs.YthmcpmnhdbeahaaGreat.D Go.Proofs.YthmcpmnhdbeahaaGreat.P
theorem Zfp {W:Nat} {A:List (List Int)} (h:A.Pairwise fun r s=>Ll W r s):A.Nodup:=h.imp fun {r s} k e=>by subst e;exact Ll.irrefl k
theorem Zmr {g:List (List Int)} {m:Int} {u l:List Int} (hg:Grp g) (hm:Mdl g m u) (hn:Nums g m l):∃r,BestC m u l r:=by
 have m2:=hm.m2;have hll:=hn.1
 have main:∀n:Nat,0 < n→(n:Int)≤m→∃r,(∃a:Nat,a < n∧r=adm m l (prm m u (a:Int)))∧∀b:Nat,b < n→¬ Ll l.length (adm m l (prm m u (b:Int))) r:=by
  intro n
  induction n with
  | zero=>intro h _;omega
  | succ n ih =>
   intro _ hm'
   by_cases h0:n=0
   ·
    subst h0
    exact⟨_,⟨0,by omega,rfl⟩,fun b hb=>by rw[show b=0 by omega];exact Ll.irrefl⟩
   ·
    obtain⟨r,⟨a,ha,e⟩,hr⟩:=ih (by omega) (by omega)
    by_cases h:Ll l.length (adm m l (prm m u (n:Int))) r
    ·
     refine⟨_,⟨n,by omega,rfl⟩,fun b hb k => ?_⟩
     by_cases q:b=n
     ·
      rw[q]at k;exact Ll.irrefl k
     ·
      exact hr b (by omega) (k.trans h)
    ·
     refine⟨r,⟨a,by omega,e⟩,fun b hb => ?_⟩
     by_cases q:b=n
     ·
      rw[q];exact h
     ·
      exact hr b (by omega)
 obtain⟨r,⟨a,ha,e⟩,hr⟩:=main m.toNat (by omega) (by omega)
 exact⟨r,⟨a,by omega,e⟩,fun s ⟨b,hb,e'⟩=>by rw[e'];exact hr b (by omega)⟩
theorem Zib {m:Int} (m0:0 < m) {u r:List Int} (hl:r.length=u.length) {a b:Int} (e:adm m r (prm m u a)=adm m r (prm m u b)):prm m u a=prm m u b:=by
 refine ZfN (by rw[Zcw,Zcw]) fun i i0 i1 => ?_
 rw[Zcw]at i1
 obtain⟨n,rfl⟩:=Int.eq_ofNat_of_zero_le i0
 obtain⟨k1,e1⟩:=adm_rd' (m:=m) (v:=r) (w:=prm m u a) (i:=n) (by omega)
 obtain⟨k2,e2⟩:=adm_rd' (m:=m) (v:=r) (w:=prm m u b) (i:=n) (by omega)
 rw[e]at e1
 obtain⟨a0,a1⟩:=Zh0 m0 u a (n:Int) (by omega) (by rw[Zcw];omega)
 obtain⟨b0,b1⟩:=Zh0 m0 u b (n:Int) (by omega) (by rw[Zcw];omega)
 rw[←Int.emod_eq_of_lt a0 a1,←Int.emod_eq_of_lt b0 b1]
 exact ZfM ⟨k2 - k1,by rw[Int.mul_sub];omega⟩
theorem ZgQ {g:List (List Int)} {m:Int} {u:List Int} (hg:Grp g) (hm:Mdl g m u) {A Ps:List (List Int)} (hA:A.Nodup) (hAm:∀r,r∈A↔r.length=g.length∧AllIn m r∧Crs g m u r) (hP:Ps.Nodup) (hPm:∀r,r∈Ps↔∃a:Nat,(a:Int) < m∧r=prm m u (a:Int)) :
  A.length=Ps.length*(A.filter fun l=>B (BestC m u l l)).length:=by
 have m2:=hm.m2;have hlu:=hm.len
 have nums:∀l∈A,Nums g m l:=fun l hl=>by
  obtain⟨h1,h2,_⟩:=(hAm l).1 hl
  exact⟨by omega,h2⟩
 have crs:∀l∈A,Crs g m u l:=fun l hl=>((hAm l).1 hl).2.2
 obtain⟨K,hK⟩:∃K,K=A.filter fun l=>B (BestC m u l l):=⟨_,rfl⟩
 rw[←hK]
 have hKm:∀r,r∈K↔r∈A∧BestC m u r r:=fun r=>by
  rw[hK,List.mem_filter]
  exact and_congr Iff.rfl B_iff
 have hKn:K.Nodup:=by rw[hK];exact hA.filter _
 have hF:(K.flatMap fun r=>Ps.map fun p=>adm m r p).length=K.length*Ps.length:=by
  have:∀l:List (List Int),(l.flatMap fun r=>Ps.map fun p=>adm m r p).length=l.length*Ps.length:=by
   intro l
   induction l with
   | nil=>simp
   | cons x l ih=>rw[List.flatMap_cons,List.length_append,ih,List.length_map,List.length_cons,Nat.succ_mul];omega
  exact this K
 have key:∀r p,r∈K→p∈Ps→adm m r p∈A∧BestC m u (adm m r p) r:=fun r p hr hp=>by
  obtain⟨h1,h2⟩:=(hKm r).1 hr
  obtain⟨a,ha,rfl⟩:=(hPm p).1 hp
  have hn:=nums r h1
  obtain⟨c1,c2⟩:=(crs r h1).adm hg hm hn (a:Int)
  exact⟨(hAm _).2 ⟨by have:=c2.1;omega,c2.2,c1⟩,(ZeV hm hn (by omega) r).2 h2⟩
 have hFn:(K.flatMap fun r=>Ps.map fun p=>adm m r p).Nodup:=by
  rw[List.Nodup,List.pairwise_flatMap]
  constructor
  ·
   intro r hr
   have hl:=(nums r ((hKm r).1 hr).1).1
   rw[List.pairwise_map]
   refine List.Pairwise.imp_of_mem (fun {p q} hp hq h e=>h ?_) hP
   obtain⟨a,_,rfl⟩:=(hPm p).1 hp
   obtain⟨b,_,rfl⟩:=(hPm q).1 hq
   exact Zib (by omega) (by omega) e
  ·
   refine List.Pairwise.imp_of_mem (fun {r s} hr hs h x hx y hy e=>h ?_) hKn
   obtain⟨p,hp,rfl⟩:=List.mem_map.1 hx
   obtain⟨q,hq,rfl⟩:=List.mem_map.1 hy
   have k1:=(key r p hr hp).2
   have k2:=(key s q hs hq).2
   rw[e]at k1
   exact k1.uniq k2
 have hmem:∀x,x∈A↔x∈K.flatMap fun r=>Ps.map fun p=>adm m r p:=fun x=>by
  rw[List.mem_flatMap]
  constructor
  ·
   intro hx
   have hn:=nums x hx
   obtain⟨r,hr⟩:=Zmr hg hm hn
   obtain⟨a,ha,e⟩:=hr.1
   obtain⟨c1,c2⟩:=(crs x hx).adm hg hm hn (a:Int)
   have hll:=hn.1
   have hrA:r∈A:=(hAm r).2 (by rw[e];exact⟨by have:=c2.1;omega,c2.2,c1⟩)
   have hrr:BestC m u r r:=by
    have:=(ZeV hm hn (a:=(a:Int)) (by omega) r).2 hr
    rwa[←e]at this
   refine⟨r,(hKm r).2 ⟨hrA,hrr⟩,?_⟩
   by_cases h0:a=0
   ·
    refine List.mem_map.2 ⟨prm m u 0,(hPm _).2 ⟨0,by omega,rfl⟩,?_⟩
    rw[e,ZgM (by omega) (by omega) (a:Int) 0 0 (by rw[h0];exact⟨0,by omega⟩)]
    exact Zeu hm hn
   ·
    refine List.mem_map.2 ⟨prm m u (m - a),(hPm _).2 ⟨(m - a).toNat,by omega,by rw[Int.toNat_of_nonneg (by omega)]⟩,?_⟩
    rw[e,ZgM (by omega) (by omega) (a:Int) (m - a) 0 ⟨1,by omega⟩]
    exact Zeu hm hn
  ·
   rintro⟨r,hr,hx⟩
   obtain⟨p,hp,rfl⟩:=List.mem_map.1 hx
   exact(key r p hr hp).1
 have l1:=nd_le hA fun x hx=>(hmem x).1 hx
 have l2:=nd_le hFn fun x hx=>(hmem x).2 hx
 rw[Nat.mul_comm,←hF]
 omega
end Go.Proofs.YthmcpmnhdbeahaaGreat.V
set_option maxRecDepth 100000
namespace Go.Proofs.YthmcpmnhdbeahaaGreat.P
open Go Go.RowKit Go.Proofs.YthmcpmnhdbeahaaGreat.D
end Go.Proofs.YthmcpmnhdbeahaaGreat.P
namespace Go.Proofs.YthmcpmnhdbeahaaGreat.P
open Go Go.RowKit Go.Proofs.YthmcpmnhdbeahaaGreat.D
end Go.Proofs.YthmcpmnhdbeahaaGreat.P
namespace Go.Proofs.YthmcpmnhdbeahaaGreat.P
open Go Go.RowKit Go.Proofs.YthmcpmnhdbeahaaGreat.D
end Go.Proofs.YthmcpmnhdbeahaaGreat.P
namespace Go.Proofs.YthmcpmnhdbeahaaGreat.P
open Go Go.RowKit Go.Proofs.YthmcpmnhdbeahaaGreat.D
end Go.Proofs.YthmcpmnhdbeahaaGreat.P
namespace Go.Proofs.YthmcpmnhdbeahaaGreat.P
open Go Go.RowKit Go.Proofs.YthmcpmnhdbeahaaGreat.D
end Go.Proofs.YthmcpmnhdbeahaaGreat.P
namespace Go.Proofs.YthmcpmnhdbeahaaGreat.P
open Go Go.RowKit Go.Proofs.YthmcpmnhdbeahaaGreat.D
end Go.Proofs.YthmcpmnhdbeahaaGreat.P
namespace Go.Proofs.YthmcpmnhdbeahaaGreat.P
open Go Go.RowKit Go.Proofs.YthmcpmnhdbeahaaGreat.D
end Go.Proofs.YthmcpmnhdbeahaaGreat.P
namespace Go.Proofs.YthmcpmnhdbeahaaGreat.P
open Go Go.RowKit Go.Proofs.YthmcpmnhdbeahaaGreat.D
end Go.Proofs.YthmcpmnhdbeahaaGreat.P
namespace Go.Proofs.YthmcpmnhdbeahaaGreat.P
open Go Go.RowKit Go.Proofs.YthmcpmnhdbeahaaGreat.D
end Go.Proofs.YthmcpmnhdbeahaaGreat.P
namespace Go.Proofs.YthmcpmnhdbeahaaGreat.P
open Go Go.RowKit Go.Proofs.YthmcpmnhdbeahaaGreat.D
end Go.Proofs.YthmcpmnhdbeahaaGreat.P
namespace Go.Proofs.YthmcpmnhdbeahaaGreat.P
open Go Go.RowKit Go.Proofs.YthmcpmnhdbeahaaGreat.D
end Go.Proofs.YthmcpmnhdbeahaaGreat.P
namespace Go.Proofs.YthmcpmnhdbeahaaGreat.P
open Go Go.RowKit Go.Proofs.YthmcpmnhdbeahaaGreat.D
end Go.Proofs.YthmcpmnhdbeahaaGreat.P
namespace Go.Proofs.YthmcpmnhdbeahaaGreat.P
open Go Go.RowKit Go.Proofs.YthmcpmnhdbeahaaGreat.D
end Go.Proofs.YthmcpmnhdbeahaaGreat.P
set_option maxHeartbeats 2000000
set_option maxRecDepth 20000
namespace Go.Proofs.YthmcpmnhdbeahaaGreat.V
open Go.RowKit Go.Proofs.YthmcpmnhdbeahaaGreat.D Go.Proofs.YthmcpmnhdbeahaaGreat.P
theorem less_ (a b:Int):Zbn.f a b=some (decide (a < b)):=by
 rw[Zbn.f_eq,ZaH.f_eq,ZaH.f_eq]
 simp
def insQ:List Int→Int→List Int→List Int
 | [],v,Q=>v :: Q
 | w :: R,v,Q=>if v < w then insQ R v (w :: Q)else R.reverse++w :: v :: Q
theorem Zmh {A B:List Int} {v:Int} {j:Nat} (h:A.length=j):rd (A++v :: B) (j:Int)=v:=by subst h;simp[rd,List.getD_eq_getElem?_getD]
theorem Zk3 {A B:List Int} {v w:Int} {j:Nat} (h:A.length=j):(A++v :: B).set j w=A++w :: B:=by subst h;simp
theorem Zm8 (x2:Int) (i:Nat) (hi:i < 4611686018427387904):∀(R:List Int) (v:Int) (Q:List Int),R.length≤i→Zj.l1 0 x2 i (R.length:Int) (R.reverse++v :: Q)=Zj.l0 0 x2 ((i+1:Nat):Int) (insQ R v Q):=by
 intro R
 induction R with
 | nil =>
  intro v Q _
  rw[Zj.l1_eq,wn (j:=i) hi]
  (with_reducible repeat (first|refine Zq (by first|assumption|omega|rfl|exact B_pos (by omega)) ?_|refine Zp (by first|assumption|omega|decide|exact B_not (by omega)) ?_|refine Zk (by first|assumption) ?_|dsimp only))
  rfl
 | cons w R ih =>
  intro v Q hR
  have hR' : R.length+1≤i:=hR
  have e:(w :: R).reverse++v :: Q=R.reverse++w :: v :: Q:=by simp
  have e2:(((w :: R).length:Nat):Int)=((R.length+1:Nat):Int):=rfl
  have e3:wrapI (((R.length+1:Nat):Int) - 1)=(R.length:Int):=by rw[w64 (by omega) (by omega)];omega
  have hl:R.reverse.length=R.length:=List.length_reverse
  have r1:rd (R.reverse++w :: v :: Q) ((R.length+1:Nat):Int)=v:=by
   rw[show R.reverse++w :: v :: Q=(R.reverse++[w])++v :: Q by simp]
   exact Zmh (by rw[List.length_append,hl];rfl)
  have r2:rd (R.reverse++w :: v :: Q) (R.length:Int)=w:=Zmh hl
  have s1:(R.reverse++w :: v :: Q).set (R.length+1) w=R.reverse++w :: w :: Q:=by
   rw[show R.reverse++w :: v :: Q=(R.reverse++[w])++v :: Q by simp,Zk3 (by rw[List.length_append,hl];rfl)]
   simp
  have s2:(R.reverse++w :: w :: Q).set R.length v=R.reverse++v :: w :: Q:=Zk3 hl
  have l1:(R.reverse++w :: v :: Q).length=R.length+2+Q.length:=by rw[List.length_append,hl,List.length_cons,List.length_cons];omega
  have l2:(R.reverse++w :: w :: Q).length=R.length+2+Q.length:=by rw[List.length_append,hl,List.length_cons,List.length_cons];omega
  have hls:=less_ v w
  rw[e,e2,Zj.l1_eq,e3,r1,r2,Int.toNat_natCast,Int.toNat_natCast,s1,s2,wn (j:=i) hi,insQ]
  clear e e2 e3 r1 r2 s1 s2
  by_cases h:v < w
  ·
   rw[decide_eq_true h]at hls
   rw[if_pos h]
   (with_reducible repeat (first|refine Zq (by first|assumption|omega|rfl|exact B_pos (by omega)) ?_|refine Zp (by first|assumption|omega|decide|exact B_not (by omega)) ?_|refine Zk (by first|assumption) ?_|dsimp only))
   exact ih v (w :: Q) (by omega)
  ·
   rw[decide_eq_false h]at hls
   rw[if_neg h]
   ((with_reducible repeat (first|refine Zq (by first|assumption|omega|rfl|exact B_pos (by omega)) ?_|refine Zp (by first|assumption|omega|decide|exact B_not (by omega)) ?_|refine Zk (by first|assumption) ?_|dsimp only));first|done|(with_reducible rfl)|simp (disch:=omega) only[w64]|(show False;done))
theorem Zlx:∀(R:List Int) (v:Int) (Q Q' : List Int),insQ R v (Q++Q')=insQ R v Q++Q' := by
 intro R
 induction R with
 | nil=>intro v Q Q';rfl
 | cons w R ih =>
  intro v Q Q'
  rw[insQ,insQ]
  split
  ·
   exact ih v (w :: Q) Q'
  ·
   simp
theorem Zlz:∀(R:List Int) (v:Int) (Q:List Int) (x:Int),x∈insQ R v Q↔x=v∨x∈R∨x∈Q:=by
 intro R
 induction R with
 | nil=>intro v Q x;simp[insQ]
 | cons w R ih =>
  intro v Q x
  rw[insQ]
  split
  ·
   rw[ih];simp only[List.mem_cons];constructor
   ·
    rintro(h|h|h|h) <;> simp[h]
   ·
    rintro(h|(h|h)|h) <;> simp[h]
  ·
   simp only[List.mem_append,List.mem_reverse,List.mem_cons];constructor
   ·
    rintro(h|h|h|h) <;> simp[h]
   ·
    rintro(h|(h|h)|h) <;> simp[h]
theorem Zly:∀(R:List Int) (v:Int) (Q:List Int),(insQ R v Q).length=R.length+1+Q.length:=by
 intro R
 induction R with
 | nil=>intro v Q;simp[insQ];omega
 | cons w R ih =>
  intro v Q
  rw[insQ]
  split
  ·
   rw[ih];simp;omega
  ·
   simp;omega
theorem Zio:∀(R:List Int) (v:Int) (Q:List Int),R.Pairwise (fun a b=>b < a)→(∀x∈R,x≠v)→Q.Pairwise (· < ·)→(∀x∈R,∀y∈Q,x < y)→(∀y∈Q,v < y)→(insQ R v Q).Pairwise (· < ·):=by
 intro R
 induction R with
 | nil=>intro v Q _ _ hQ _ hv;exact List.pairwise_cons.2 ⟨hv,hQ⟩
 | cons w R ih =>
  intro v Q hR hn hQ hRQ hv
  obtain⟨h1,h2⟩:=List.pairwise_cons.1 hR
  rw[insQ]
  split
  ·
   rename_i h
   refine ih v (w :: Q) h2 (fun x hx=>hn x (List.mem_cons_of_mem _ hx)) (List.pairwise_cons.2 ⟨fun y hy=>hRQ w List.mem_cons_self y hy,hQ⟩) (fun x hx y hy => ?_) (fun y hy => ?_)
   ·
    rcases List.mem_cons.1 hy with rfl|hy
    ·
     exact h1 x hx
    ·
     exact hRQ x (List.mem_cons_of_mem _ hx) y hy
   ·
    rcases List.mem_cons.1 hy with rfl|hy
    ·
     exact h
    ·
     exact hv y hy
  ·
   rename_i h
   have hw:w < v:=by have:=hn w List.mem_cons_self;omega
   rw[List.pairwise_append]
   refine⟨List.pairwise_reverse.2 h2,List.pairwise_cons.2 ⟨fun y hy => ?_,List.pairwise_cons.2 ⟨hv,hQ⟩⟩,fun x hx y hy => ?_⟩
   ·
    rcases List.mem_cons.1 hy with rfl|hy
    ·
     exact hw
    ·
     exact hRQ w List.mem_cons_self y hy
   ·
    have hx' := h1 x (List.mem_reverse.1 hx)
    rcases List.mem_cons.1 hy with rfl|hy
    ·
     exact hx'
    ·
     rcases List.mem_cons.1 hy with rfl|hy
     ·
      omega
     ·
      exact hRQ x (List.mem_cons_of_mem _ (List.mem_reverse.1 hx)) y hy
theorem sort_ (xs:List Int) (hl:xs.length≤12) (hn:xs.Nodup):∃ys,ZaS.f xs=some ys∧ys.length=xs.length∧ys.Pairwise (· < ·)∧∀x,x∈ys↔x∈xs:=by
 have hw:wr .u64 (xs.length:Int)=(xs.length:Int):=by
  show hid (IntKind.wrap .u64 _)=_
  rw[ZcE]
  obtain⟨n,hn⟩:∃n,n=xs.length:=⟨_,rfl⟩
  rw[←hn]at hl ⊢
  have:∀n:Fin 13,IntKind.wrap .u64 ((n:Nat):Int)=((n:Nat):Int):=by decide
  exact this ⟨n,by omega⟩
 have hb:∃y,bits_Len.f (xs.length:Int)=some y:=⟨_,if_pos ⟨by omega,by omega⟩⟩
 obtain⟨y,hb⟩:=hb
 have H:∀(d:Nat) (R Q:List Int),Q.length=d→R.length+d=xs.length→1≤R.length→R.Pairwise (fun a b=>b < a)→(R.reverse++Q).Nodup→∃ys,Zj.l0 0 (xs.length:Int) (R.length:Int) (R.reverse++Q)=some ys∧ys.length=xs.length∧ys.Pairwise (· < ·)∧∀x,x∈ys↔(x∈R∨x∈Q):=by
  intro d
  induction d with
  | zero =>
   intro R Q hQ hR _ hs hnd
   obtain rfl:Q=[]:=List.eq_nil_of_length_eq_zero hQ
   refine⟨R.reverse++[],?_,by simp;omega,by rw[List.append_nil];exact List.pairwise_reverse.2 hs,fun x=>by simp⟩
   rw[Zj.l0_eq]
   ((with_reducible repeat (first|refine Zq (by first|assumption|omega|rfl|exact B_pos (by omega)) ?_|refine Zp (by first|assumption|omega|decide|exact B_not (by omega)) ?_|refine Zk (by first|assumption) ?_|dsimp only));first|done|(with_reducible rfl)|simp (disch:=omega) only[w64]|(show False;done))
  | succ d ih =>
   intro R Q hQ hR h1 hs hnd
   match Q,hQ with
   | v :: Q,hQ =>
    have hQ:Q.length=d:=by simpa using hQ
    have hd:=List.nodup_append.1 hnd
    obtain⟨hvQ,hQn⟩:=List.nodup_cons.1 hd.2.1
    have hvR:∀x∈R,x≠v:=fun x hx h=>hd.2.2 x (List.mem_reverse.2 hx) v List.mem_cons_self h
    have hsort:=Zio R v [] hs hvR List.Pairwise.nil (fun _ _ _ h=>by cases h) (fun _ h=>by cases h)
    have hlen:=Zly R v []
    obtain⟨S,hS⟩:∃S,S=insQ R v []:=⟨_,rfl⟩
    have hin:insQ R v Q=S++Q:=by rw[hS,←Zlx,List.nil_append]
    rw[←hS]at hsort hlen
    have hmS:∀x,x∈S↔x=v∨x∈R:=fun x=>by rw[hS,Zlz];simp
    have hSn:S.Nodup:=hsort.imp fun h=>by omega
    obtain⟨ys,e,k1,k2,k3⟩:=ih S.reverse Q hQ (by rw[List.length_reverse,hlen];simp;omega) (by rw[List.length_reverse,hlen];omega) (List.pairwise_reverse.2 hsort) (by
     rw[List.reverse_reverse]
     refine List.nodup_append.2 ⟨hSn,hQn,fun a ha b hb => ?_⟩
     rcases(hmS a).1 ha with rfl|ha
     ·
      intro h;subst h;exact hvQ hb
     ·
      exact hd.2.2 a (List.mem_reverse.2 ha) b (List.mem_cons_of_mem _ hb))
    rw[List.reverse_reverse,List.length_reverse,hlen,List.length_nil,Nat.add_zero]at e
    refine⟨ys,?_,k1,k2,fun x => ?_⟩
    ·
     rw[Zj.l0_eq]
     (with_reducible repeat (first|refine Zq (by first|assumption|omega|rfl|exact B_pos (by omega)) ?_|refine Zp (by first|assumption|omega|decide|exact B_not (by omega)) ?_|refine Zk (by first|assumption) ?_|dsimp only))
     rw[Zm8 _ R.length (by omega) R v Q (Nat.le_refl _),hin]
     exact e
    ·
     rw[k3,List.mem_reverse,hmS,List.mem_cons]
     constructor
     ·
      rintro((h|h)|h) <;> simp[h]
     ·
      rintro(h|h|h) <;> simp[h]
 rw[ZaS.f_eq,hw,hb,Option.bind_some,ZB.f_eq,ZB.l0_eq,Zj.f_eq,w64 (x:=(xs.length:Int) - 0) (by omega) (by omega),show wrapI (0+1)=1 from w64 (by omega) (by omega)]
 clear hw hb
 cases xs with
 | nil =>
  refine⟨[],?_,rfl,List.Pairwise.nil,fun x=>Iff.rfl⟩
  rw[Zj.l0_eq]
  rfl
 | cons v Q =>
  obtain⟨ys,e,k1,k2,k3⟩:=H Q.length [v] Q rfl (by simp;omega) (by simp) (List.pairwise_singleton ..) hn
  have e:Zj.l0 0 ((v :: Q).length:Int) 1 (v :: Q)=some ys:=e
  refine⟨ys,?_,k1,k2,fun x=>by rw[k3];simp⟩
  rw[e,if_pos (by omega)]
  rfl
theorem Zhi:∀(xs ys:List Int),xs.Pairwise (· < ·)→ys.Pairwise (· < ·)→(∀x,x∈xs↔x∈ys)→xs=ys:=by
 intro xs
 induction xs with
 | nil =>
  intro ys _ _ h
  cases ys with
  | nil=>rfl
  | cons y ys=>exact absurd ((h y).2 List.mem_cons_self) (by simp)
 | cons x xs ih =>
  intro ys hx hy h
  cases ys with
  | nil=>exact absurd ((h x).1 List.mem_cons_self) (by simp)
  | cons y ys =>
   obtain⟨a1,a2⟩:=List.pairwise_cons.1 hx
   obtain⟨b1,b2⟩:=List.pairwise_cons.1 hy
   have e:x=y:=by
    have h1:=(h x).1 List.mem_cons_self
    have h2:=(h y).2 List.mem_cons_self
    rcases List.mem_cons.1 h1 with h1|h1
    ·
     exact h1
    ·
     rcases List.mem_cons.1 h2 with h2|h2
     ·
      exact h2.symm
     ·
      have:=a1 y h2;have:=b1 x h1;omega
   subst e
   refine congrArg _ (ih ys a2 b2 fun z => ?_)
   have hz:=h z
   simp only[List.mem_cons]at hz
   constructor
   ·
    intro k
    have:=a1 z k
    rcases hz.1 (.inr k)with h|h
    ·
     omega
    ·
     exact h
   ·
    intro k
    have:=b1 z k
    rcases hz.2 (.inr k)with h|h
    ·
     omega
    ·
     exact h
theorem ZiJ {xs:List Int} (hl:xs.length≤12) (hs:xs.Pairwise (· < ·)):ZaS.f xs=some xs:=by
 obtain⟨ys,e,_,k,hm⟩:=sort_ xs hl (hs.imp fun h=>by omega)
 rw[e,Zhi ys xs k hs hm]
end Go.Proofs.YthmcpmnhdbeahaaGreat.V
set_option maxHeartbeats 4000000
namespace Go.Proofs.YthmcpmnhdbeahaaGreat.V
open Go.RowKit Go.Proofs.YthmcpmnhdbeahaaGreat.D Go.Proofs.YthmcpmnhdbeahaaGreat.P
theorem Zl5 {n x:Int}:AllIn n [x]↔0≤x∧x < n:=⟨fun h=>h.mem (List.mem_singleton.2 rfl),fun h=>ZfD h.1 h.2⟩
theorem Zgm (g:List (List Int)) (hl:g.length≤maxLen) (hr:∀r∈g,r.length≤maxLen) (m:Int) (u:List Int) (hu:u.length≤maxLen) (l:List Int) (hx:l.length≤maxLen) (hg:Grp g) (hm:Mdl g m u) (hn:Nums g m l) (hc:Crs g m u l):ZaN.f g m u l=some 0:=by
 have hM:=Zch g hl hr m u hu
 have hn1:=ZeD (g:=g) (m:=m) (u:=u) hx
 have c1:=ZeB hg hm hn
 rw[ZbU ⟨hg,hm⟩]at hM
 rw[ZaN.f_eq,ZaC.f_eq,hM,Option.bind_some,if_pos rfl,hn1,B_pos hn,Option.bind_some,if_pos rfl,Option.bind_some,if_pos rfl,c1,B_pos hc]
 rfl
theorem ZdZ {g:List (List Int)} (hg:Grp g):g.length≤maxLen∧∀r∈g,r.length≤maxLen:=by
 have n8:=hg.n8
 refine⟨ZbT (by omega),fun r hr => ?_⟩
 obtain⟨i,i0,i1,rfl⟩:=Zis hr
 have:=hg.row i i0 i1
 exact ZbT (by omega)
theorem ZiY {g:List (List Int)} {m:Int} {u l:List Int} (hg:Grp g) (hm:Mdl g m u) (hn:Nums g m l) (hc:Crs g m u l):∃r,Zat.f g m u l=some (r,0)∧BestC m u l r∧r.length≤8:=by
 obtain⟨hl,hr⟩:=ZdZ hg
 have n8:=hg.n8;have hlu:=hm.len;have hnl:=hn.1
 have cI:=Zgm g hl hr m u (ZbT (by omega)) l (ZbT (by omega)) hg hm hn hc
 obtain⟨Ps,p1,_,p4,p2,p3⟩:=ZcL hg hm
 obtain⟨r,r1,r2⟩:=ZiX hg hm hn p2 p3 p4
 refine⟨r,?_,r2,?_⟩
 ·
  rw[Zat.f_eq]
  ((with_reducible repeat (first|refine Zq (by first|assumption|omega|rfl|exact B_pos (by omega)) ?_|refine Zp (by first|assumption|omega|decide|exact B_not (by omega)) ?_|refine Zk (by first|assumption) ?_|dsimp only));first|done|(with_reducible rfl)|simp (disch:=omega) only[w64]|(show False;done))
 ·
  obtain⟨a,_,e⟩:=r2.1
  rw[e,Zb3];omega
end Go.Proofs.YthmcpmnhdbeahaaGreat.V
namespace Go.Proofs.YthmcpmnhdbeahaaGreat.V
open Go Go.RowKit Go.Proofs.YthmcpmnhdbeahaaGreat.D Go.Proofs.YthmcpmnhdbeahaaGreat.P
theorem numbers_codes (g:List (List Int)) (hl:g.length≤maxLen) (hr:∀r∈g,r.length≤maxLen) (m:Int) (u:List Int) (hu:u.length≤maxLen) (l:List Int) (hx:l.length≤maxLen) :
  (Grp g∧Mdl g m u∧Nums g m l∧ZaC.f g m u l=some 0∧Zbs.f g m u l=some 0) ∨
  ∃c:Int,¬ c=0∧ZaC.f g m u l=some c∧Zbs.f g m u l=some c:=by
 have hM:=Zch g hl hr m u hu
 have hS:=Is_ g
 rw[ZaC.f_eq,Zbs.f_eq]
 by_cases h:GM g m u
 rotate_left
 ·
  rw[ZbW h]at hM
  refine .inr ⟨1,by omega,by rw[hM];rfl,?_⟩
  by_cases h1:Grp g
  ·
   have h2:=Is02 h1 m u hu
   rw[B_neg fun k=>h ⟨h1,k⟩]at h2
   rw[hS,B_pos h1,Option.bind_some,if_pos rfl,h2];rfl
  ·
   rw[hS,B_neg h1];rfl
 obtain⟨hg,hm⟩:=h
 have h2:=Is02 hg m u hu
 have hn1:=ZeD (g:=g) (m:=m) (u:=u) hx
 have hn2:=ZiO (g:=g) (u:=u) hm.m2 hm.m12 hx
 rw[ZbU ⟨hg,hm⟩]at hM
 rw[hM,hS,B_pos hg,Option.bind_some,if_pos rfl,Option.bind_some,if_pos rfl,h2,B_pos hm,Option.bind_some,if_pos rfl,hn1,hn2]
 by_cases h3:Nums g m l
 ·
  rw[B_pos h3]
  exact .inl ⟨hg,hm,h3,rfl,rfl⟩
 ·
  rw[B_neg h3]
  exact .inr ⟨2,by omega,rfl,rfl⟩
theorem Zgj (g:List (List Int)) (m:Int) (u l:List Int) (hl:g.length≤maxLen) (hr:∀r∈g,r.length≤maxLen) (hu:u.length≤maxLen) (hx:l.length≤maxLen) :
  ∃(b:Bool) (e:Int),Za9.f g m u l=some (b,e)∧Zbl.f g m u l=some (b,e):=by
 rcases numbers_codes g hl hr m u hu l hx with ⟨hg,hm,hn,cI,cS⟩|⟨c,c0,cI,cS⟩
 ·
  have c1:=ZeB hg hm hn
  have c2:=ZiN hg hm hn
  generalize B (Crs g m u l)=b at c1 c2
  refine⟨decide (b=true),0,?_,?_⟩
  ·
   rw[Za9.f_eq];((with_reducible repeat (first|refine Zq (by first|assumption|omega|rfl|exact B_pos (by omega)) ?_|refine Zp (by first|assumption|omega|decide|exact B_not (by omega)) ?_|refine Zk (by first|assumption) ?_|dsimp only));first|done|(with_reducible rfl)|simp (disch:=omega) only[w64]|(show False;done))
  ·
   rw[Zbl.f_eq];((with_reducible repeat (first|refine Zq (by first|assumption|omega|rfl|exact B_pos (by omega)) ?_|refine Zp (by first|assumption|omega|decide|exact B_not (by omega)) ?_|refine Zk (by first|assumption) ?_|dsimp only));first|done|(with_reducible rfl)|simp (disch:=omega) only[w64]|(show False;done))
 ·
  refine⟨false,c,?_,?_⟩
  ·
   rw[Za9.f_eq];((with_reducible repeat (first|refine Zq (by first|assumption|omega|rfl|exact B_pos (by omega)) ?_|refine Zp (by first|assumption|omega|decide|exact B_not (by omega)) ?_|refine Zk (by first|assumption) ?_|dsimp only));first|done|(with_reducible rfl)|simp (disch:=omega) only[w64]|(show False;done))
  ·
   rw[Zbl.f_eq];((with_reducible repeat (first|refine Zq (by first|assumption|omega|rfl|exact B_pos (by omega)) ?_|refine Zp (by first|assumption|omega|decide|exact B_not (by omega)) ?_|refine Zk (by first|assumption) ?_|dsimp only));first|done|(with_reducible rfl)|simp (disch:=omega) only[w64]|(show False;done))
theorem ZhH {g:List (List Int)} {m:Int} {u l:List Int} (hg:Grp g) (hm:Mdl g m u) (hn:Nums g m l) (hc:Crs g m u l):Za9.f g m u l=some (true,0):=by
 obtain⟨hl,hr⟩:=ZdZ hg
 have n8:=hg.n8;have hlu:=hm.len;have hnl:=hn.1
 have hM:=Zch g hl hr m u (ZbT (by omega))
 have hn1:=ZeD (g:=g) (m:=m) (u:=u) (l:=l) (ZbT (by omega))
 have c1:=ZeB hg hm hn
 rw[ZbU ⟨hg,hm⟩]at hM
 rw[B_pos hn]at hn1
 rw[B_pos hc]at c1
 rw[Za9.f_eq,ZaC.f_eq,hM,Option.bind_some,if_pos rfl,hn1,Option.bind_some,if_pos rfl,Option.bind_some,if_pos rfl,c1]
 rfl
theorem Zfa (g:List (List Int)) (m:Int) (u:List Int) (a:Int) (hl:g.length≤maxLen) (hr:∀r∈g,r.length≤maxLen) (hu:u.length≤maxLen) :
  ∃(R:List Int) (e:Int),ZaY.f g m u a=some (R,e)∧Za0.f g m u a=some (R,e)∧R.length≤8:=by
 have hM:=Zch g hl hr m u hu
 have hS:=Is_ g
 rw[ZaY.f_eq,Za0.f_eq]
 by_cases h:GM g m u
 rotate_left
 ·
  rw[ZbW h]at hM
  refine⟨[],1,by rw[hM];rfl,?_,by simp⟩
  by_cases h1:Grp g
  ·
   have h2:=Is02 h1 m u hu
   rw[B_neg fun k=>h ⟨h1,k⟩]at h2
   rw[hS,B_pos h1,Option.bind_some,if_pos rfl,h2];rfl
  ·
   rw[hS,B_neg h1];rfl
 obtain⟨hg,hm⟩:=h
 have h2:=Is02 hg m u hu
 have m2:=hm.m2;have m12:=hm.m12;have n8:=hg.n8;have hlu:=hm.len
 have hA:=areIn m [a] (ZbT (by simp))
 rw[ZbU ⟨hg,hm⟩]at hM
 rw[hM,hS,B_pos hg,Option.bind_some,if_pos rfl,Option.bind_some,if_pos rfl,h2,B_pos hm,Option.bind_some,if_pos rfl,w64 (x:=m - 1) (by omega) (by omega),In_,hA]
 by_cases h3:0≤a∧a < m
 ·
  rw[B_pos (Zl5.2 h3),B_pos (show 0≤a∧a≤m - 1 by omega)]
  refine⟨prm m u a,0,?_,?_,by rw[Zcw];omega⟩
  ·
   rw[Option.bind_some,if_pos rfl,ZeL hg hm h3.1 h3.2];rfl
  ·
   rw[Option.bind_some,if_pos rfl,ZeS hg hm h3.1 h3.2];rfl
 ·
  rw[B_neg (fun k=>h3 (Zl5.1 k)),B_neg (show ¬ (0≤a∧a≤m - 1)by omega)]
  exact⟨[],2,rfl,rfl,by simp⟩
theorem Zer (g:List (List Int)) (m:Int) (u l:List Int) (hl:g.length≤maxLen) (hr:∀r∈g,r.length≤maxLen) (hu:u.length≤maxLen) (hx:l.length≤maxLen) :
  ∃(R:List Int) (e:Int),Zat.f g m u l=some (R,e)∧ZaE.f g m u l=some (R,e)∧R.length≤1048576:=by
 rcases crossed_codes g hl hr m u hu l hx with ⟨hg,hm,hn,hc,cI,cS⟩|⟨c,c0,cI,cS⟩
 rotate_left
 ·
  refine⟨[],c,?_,?_,by simp⟩
  ·
   rw[Zat.f_eq];((with_reducible repeat (first|refine Zq (by first|assumption|omega|rfl|exact B_pos (by omega)) ?_|refine Zp (by first|assumption|omega|decide|exact B_not (by omega)) ?_|refine Zk (by first|assumption) ?_|dsimp only));first|done|(with_reducible rfl)|simp (disch:=omega) only[w64]|(show False;done))
  ·
   rw[ZaE.f_eq];((with_reducible repeat (first|refine Zq (by first|assumption|omega|rfl|exact B_pos (by omega)) ?_|refine Zp (by first|assumption|omega|decide|exact B_not (by omega)) ?_|refine Zk (by first|assumption) ?_|dsimp only));first|done|(with_reducible rfl)|simp (disch:=omega) only[w64]|(show False;done))
 obtain⟨r,r1,r2,r3⟩:=ZiY hg hm hn hc
 obtain⟨s,s1,s2⟩:=Zl2 hg hm hn
 obtain rfl:=r2.uniq s2
 refine⟨r,0,r1,?_,by omega⟩
 rw[ZaE.f_eq]
 ((with_reducible repeat (first|refine Zq (by first|assumption|omega|rfl|exact B_pos (by omega)) ?_|refine Zp (by first|assumption|omega|decide|exact B_not (by omega)) ?_|refine Zk (by first|assumption) ?_|dsimp only));first|done|(with_reducible rfl)|simp (disch:=omega) only[w64]|(show False;done))
theorem Zkq {g:List (List Int)} {m:Int} {u l:List Int} (hg:Grp g) (hm:Mdl g m u) (hn:Nums g m l) (hc:Crs g m u l):Zak.f g m u l=some (kept g.length fun i=>decide (rd l (i:Int)=0),0):=by
 obtain⟨hl,hr⟩:=ZdZ hg
 have n8:=hg.n8;have hlu:=hm.len;have hnl:=hn.1
 have cI:=Zgm g hl hr m u (ZbT (by omega)) l (ZbT (by omega)) hg hm hn hc
 have hT:=those (g:=g) (by omega) (F:=fun z0=>(Z4.f z0 l).map fun z=>z) (p:=fun i=>decide (rd l (i:Int)=0)) (fun i hi=>by
  show Option.map _ (Z4.f (i:Int) l)=_
  have:Z4.f (i:Int) l=some (decide (rd l (i:Int)=0)):=by rw[Z4.f_eq];((with_reducible repeat (first|refine Zq (by first|assumption|omega|rfl|exact B_pos (by omega)) ?_|refine Zp (by first|assumption|omega|decide|exact B_not (by omega)) ?_|refine Zk (by first|assumption) ?_|dsimp only));first|done|(with_reducible rfl)|simp (disch:=omega) only[w64]|(show False;done))
  rw[this];rfl)
 rw[Zak.f_eq]
 ((with_reducible repeat (first|refine Zq (by first|assumption|omega|rfl|exact B_pos (by omega)) ?_|refine Zp (by first|assumption|omega|decide|exact B_not (by omega)) ?_|refine Zk (by first|assumption) ?_|dsimp only));first|done|(with_reducible rfl)|simp (disch:=omega) only[w64]|(show False;done))
theorem ZlC (n:Nat) (p:Nat→Bool) (x:Int):x∈kept n p↔∃i:Nat,i < n∧p i=true∧x=(i:Int):=by
 unfold kept
 rw[List.mem_map]
 constructor
 ·
  rintro⟨i,hi,rfl⟩
  rw[List.mem_filter,List.mem_range]at hi
  exact⟨i,hi.1,hi.2,rfl⟩
 ·
  rintro⟨i,h1,h2,rfl⟩
  exact⟨i,List.mem_filter.2 ⟨List.mem_range.2 h1,h2⟩,rfl⟩
theorem Zip (n:Nat) (p:Nat→Bool):(kept n p).Pairwise (· < ·):=by
 unfold kept
 rw[List.pairwise_map]
 exact((List.pairwise_lt_range (n:=n)).filter p).imp fun h=>by omega
theorem has2 (xs:List Int) (x:Int) (hl:xs.length≤1000000):Zab.f xs x=some (B (x∈xs)):=by
 rw[Zhx xs x (ZbT (by omega))]
 congr 1
 refine Zcf ⟨fun⟨i,i0,i1,e⟩=>by rw[←e];exact ZcC i0 i1,fun h => ?_⟩
 obtain⟨j,hj,e⟩:=List.mem_iff_getElem.1 h
 exact⟨(j:Int),by omega,by omega,by rw[V.rd_get hj,e]⟩
theorem Znm {g:List (List Int)} (hg:Grp g) {K:List Int} (hK:K.Pairwise (· < ·)) (hin:AllIn g.length K) (h0:(0:Int)∈K) (hk8:K.length≤8) (hcl:∀x∈K,∀y∈K,T g x y∈K):Zbb.f g K=some (K,0):=by
 obtain⟨hl,hr⟩:=ZdZ hg
 have n8:=hg.n8;have n1:=hg.n1
 have hpos:=List.length_pos_of_mem h0
 have hlt:∀i j:Nat,i < j→j < K.length→rd K (i:Int) < rd K (j:Int):=fun i j hij hj=>by
  rw[V.rd_get (by omega),V.rd_get hj]
  exact List.pairwise_iff_getElem.1 hK i j (by omega) hj hij
 have hK0:rd K ((0:Nat):Int)=0:=by
  obtain⟨j,hj,e⟩:=List.mem_iff_getElem.1 h0
  rw[←V.rd_get hj]at e
  by_cases q:j=0
  ·
   rw[q]at e;exact e
  ·
   have h1:=hlt 0 j (by omega) hj
   have h2:=hin ((0:Nat):Int) (by omega) (by omega)
   omega
 have hG:=Zko g hl hr
 rw[B_pos hg]at hG
 have hA:=areIn (g.length:Int) K (ZbT (by omega))
 rw[B_pos hin]at hA
 have hset:Zaj.f g K=some true:=by
  have main:=up K.length (fun k=>Zaj.l0 K K (K.length:Int) (k:Int) g) (fun k hk=>by
   rw[Zaj.l0_eq,if_pos (by omega),if_pos (by omega),if_pos (by omega),wn (j:=k) (by omega)]
   by_cases q:k=0
   ·
    subst q
    rw[if_neg (by omega)]
   ·
    have h1:=hlt (k - 1) k (by omega) hk
    have e:wrapI ((k:Int) - 1)=((k - 1:Nat):Int):=by rw[w64 (by omega) (by omega)];omega
    rw[e,if_pos (by omega),if_pos (by omega),if_pos (by omega),if_neg (by omega)])
  simp only[Int.natCast_zero]at main
  rw[Zaj.f_eq,main,Zaj.l0_eq,if_neg (by omega),Zan.f_eq,Option.bind_some,hA]
  rfl
 have cell:∀(i j:Nat) (r:List Int),i < r.length→r.length≤8→j < K.length→0≤rd r (i:Int)→rd r (i:Int) < g.length →
   Zx.l1 K (i:Int) K (K.length:Int) (j:Int) g r=ite_ (T g (rd r (i:Int)) (rd K (j:Int))∈r) (Zx.l1 K (i:Int) K (K.length:Int) ((j+1:Nat):Int) g r) (Zx.l1 K (i:Int) K (K.length:Int) ((j+1:Nat):Int) g (r++[T g (rd r (i:Int)) (rd K (j:Int))])):=fun i j r hi hr8 hj a0 a1=>by
  obtain⟨b0,b1⟩:=hin (j:Int) (by omega) (by omega)
  have ht:=times2 hg a0 a1 b0 b1
  have hh:=has2 r (T g (rd r (i:Int)) (rd K (j:Int))) (by omega)
  have l1:∀x:Int,([x]:List Int).length=1:=fun _=>rfl
  rw[Zx.l1_eq,if_pos (by omega),if_pos (by omega),if_pos (by omega),if_pos (by omega),if_pos (by omega),if_pos (by omega),if_pos (by omega),ht,Option.bind_some,hh,Option.bind_some,l1,wn (j:=j) (by omega)]
  by_cases q:T g (rd r (i:Int)) (rd K (j:Int))∈r
  ·
   rw[B_pos q,if_pos rfl,ZbU q]
  ·
   rw[B_neg q,if_neg (by decide),if_pos (by omega),ZbW q]
 have hTl:∀n:Nat,1≤n→n≤K.length→(K.take n).length=n:=fun n _ h=>by rw[List.length_take];omega
 have first:=up K.length (fun j=>Zx.l1 K ((0:Nat):Int) K (K.length:Int) (j:Int) g (K.take (max j 1))) (fun j hj=>by
  have hm:(K.take (max j 1)).length=max j 1:=hTl _ (by omega) (by omega)
  have r0:rd (K.take (max j 1)) ((0:Nat):Int)=0:=by rw[ZdV (by omega),hK0]
  obtain⟨b0,b1⟩:=hin (j:Int) (by omega) (by omega)
  rw[cell 0 j _ (by omega) (by omega) hj (by omega) (by omega),r0,hg.one _ b0 b1]
  by_cases q:j=0
  ·
   subst q
   rw[ZbU (by rw[←ZdV (A:=max 0 1) (i:=0) (by omega)];exact ZcC (by omega) (by omega))]
   rfl
  ·
   have hnot:¬ rd K (j:Int)∈K.take (max j 1):=fun h=>by
    obtain⟨i,hi,e⟩:=List.mem_iff_getElem.1 h
    rw[←V.rd_get hi,ZdV (by omega)]at e
    have:=hlt i j (by omega) hj
    omega
   rw[ZbW hnot,show max j 1=j by omega,show max (j+1) 1=j+1 by omega,ZcR hj])
 have hfull:K.take (max K.length 1)=K:=List.take_of_length_le (by omega)
 have h1K:K.take (max 0 1)=[0]:=by
  have:=ZcR (xs:=K) (m:=0) hpos
  rw[hK0]at this
  exact this
 rw[hfull,h1K]at first
 have rounds:=up (K.length - 1) (fun i=>Zx.l0 K ((i+1:Nat):Int) g K) (fun i hi=>by
  obtain⟨a0,a1⟩:=hin ((i+1:Nat):Int) (by omega) (by omega)
  have inner:=up K.length (fun j=>Zx.l1 K ((i+1:Nat):Int) K (K.length:Int) (j:Int) g K) (fun j hj=>by
   rw[cell (i+1) j K (by omega) hk8 hj a0 a1,ZbU (hcl _ (ZcC (by omega) (by omega)) _ (ZcC (by omega) (by omega)))])
  simp only[Int.natCast_zero]at inner
  rw[Zx.l0_eq,if_pos (by omega),inner,Zx.l1_eq,if_neg (by omega),wn (j:=i+1) (by omega)])
 rw[show K.length - 1+1=K.length by omega]at rounds
 have hsub:Zx.f g K=some K:=by
  have l1:([0]:List Int).length=1:=rfl
  have f1:Zx.l1 K 0 K (K.length:Int) 0 g [0]=_:=first
  rw[Zx.f_eq,Zx.l0_eq,l1,if_pos (by omega),f1,Zx.l1_eq,if_neg (by omega),wn (j:=0) (by omega)]
  refine Eq.trans rounds ?_
  rw[Zx.l0_eq,if_neg (by omega),ZiJ (by omega) hK]
  rfl
 rw[Zbb.f_eq,ZbH.f_eq,hG,Option.bind_some,if_pos rfl,hset,Option.bind_some,if_pos rfl,Option.bind_some,if_pos rfl,hsub]
 rfl
theorem ZgT {g:List (List Int)} {m:Int} {u l:List Int} (hg:Grp g) (hm:Mdl g m u) (hn:Nums g m l) (hc:Crs g m u l):rd l 0=0:=by
 have n1:=hg.n1;have m2:=hm.m2;have hnl:=hn.1
 have h:=hc 0 (by omega) (by omega) 0 (by omega) (by omega)
 rw[hg.one 0 (by omega) (by omega),hm.one hg,Int.one_mul]at h
 obtain⟨a0,a1⟩:=hn.2 0 (by omega) (by omega)
 obtain⟨k,hk⟩:=Zen m (rd l 0+rd l 0)
 rw[←h]at hk
 have:k=0:=by
  have h1:m*k < m*1:=by omega
  have h2:m*(-1) < m*k:=by omega
  have:=Int.lt_of_mul_lt_mul_left h1 (by omega)
  have:=Int.lt_of_mul_lt_mul_left h2 (by omega)
  omega
 subst this
 omega
theorem Zjy {g:List (List Int)} {m:Int} {u l:List Int} (hg:Grp g) (hm:Mdl g m u) (hn:Nums g m l) (hc:Crs g m u l):Zbb.f g (kept g.length fun i=>decide (rd l (i:Int)=0))=some (kept g.length fun i=>decide (rd l (i:Int)=0),0):=by
 have n1:=hg.n1;have n8:=hg.n8
 have hmem:∀x:Int,x∈(kept g.length fun i=>decide (rd l (i:Int)=0))↔(0≤x∧x < g.length)∧rd l x=0:=fun x=>by
  rw[ZlC]
  constructor
  ·
   rintro⟨i,h1,h2,rfl⟩
   exact⟨by omega,by simpa using h2⟩
  ·
   rintro⟨⟨h1,h2⟩,h3⟩
   obtain⟨i,rfl⟩:=Int.eq_ofNat_of_zero_le h1
   exact⟨i,by omega,by simpa using h3,rfl⟩
 refine Znm hg (Zip _ _) (Zb8 fun x hx=>((hmem x).1 hx).1) ((hmem 0).2 ⟨by omega,ZgT hg hm hn hc⟩) (by have:=Zfy g.length fun i=>decide (rd l (i:Int)=0);omega) fun x hx y hy => ?_
 obtain⟨⟨x0,x1⟩,hx⟩:=(hmem x).1 hx
 obtain⟨⟨y0,y1⟩,hy⟩:=(hmem y).1 hy
 refine(hmem _).2 ⟨hg.ent x y x0 x1 y0 y1,?_⟩
 rw[hc x x0 x1 y y0 y1,hx,hy,Int.mul_zero,Int.add_zero,Int.zero_emod]
theorem Zjr {g:List (List Int)} {m:Int} {u l:List Int} (hg:Grp g) (hm:Mdl g m u) (hn:Nums g m l) (hc:Crs g m u l):Zbk.f g m u 1 (l.drop 1)=some (true,0):=by
 obtain⟨hl,hr⟩:=ZdZ hg
 have n1:=hg.n1;have n8:=hg.n8;have hlu:=hm.len;have hnl:=hn.1;have m2:=hm.m2
 obtain⟨b1,b2⟩:=nA_bd hg (e:=1) (by omega)
 have hN1:(nB g 1:Int)=g.length - 1:=by rw[b2];show((g.length:Int) - 1) ^ 1=_;rw[Int.pow_succ,Int.pow_zero];omega
 have hdl:(l.drop 1).length=nB g 1:=by rw[List.length_drop];omega
 have hda:AllIn m (l.drop 1):=hn.2.drop 1
 have hl0:l=0 :: l.drop 1:=by
  have h1:=ZfJ (xs:=l) (m:=0) (by omega)
  have h2:=ZgT hg hm hn hc
  rw[List.drop_zero]at h1
  rw[show((0:Nat):Int)=0 from rfl,h2]at h1
  exact h1
 have hco:Co g m 1 (l.drop 1):=⟨by omega,by rw[hdl];exact b2,hda⟩
 have hcM:=(Zif hg hm hdl hda).2 (by rw[←hl0];exact hc)
 have hp:∀i:Nat,V (List.replicate (nB g 2) 0++l.drop 1) i=pad (nB g 2) (V (l.drop 1)) i:=fun i=>by
  unfold pad
  by_cases k:i < nB g 2
  ·
   rw[if_pos k]
   show rd (List.replicate (nB g 2) 0++l.drop 1) (i:Int)=0
   rw[Zc4 (by rw[List.length_replicate];exact k),Zgz]
  ·
   rw[if_neg k]
   show rd (List.replicate (nB g 2) 0++l.drop 1) (i:Int)=_
   rw[ZcO (by rw[List.length_replicate];omega),List.length_replicate]
   rfl
 have hall:allM g m u 1 (V (List.replicate (nB g 2) 0++l.drop 1)) := .alike (show Sp m _ _ _ from hcM) fun i _=>Zca (hp i).symm
 have hz:=(ZiS hg m2 (e:=1) (by omega) List.length_replicate).1 hall
 have hcy:Cocy g m u (l.drop 1) 1:=fun i i0 i1=>by
  have h:=hz i.toNat (by show i.toNat < (cells g ((1+1:Nat):Int)).toNat;omega)
  rw[Zgz,Int.zero_sub]at h
  exact Int.emod_eq_zero_of_dvd (Int.dvd_neg.1 h)
 have hcI:=Zkm hg m u 1 (l.drop 1) (ZbT (by rw[hdl];omega))
 rw[B_pos hco]at hcI
 have hcy' := Zkn (d:=1) hg hm hco
 rw[B_pos hcy]at hcy'
 have hcy' : ZaK.f g m u 1 (l.drop 1)=some true:=hcy'
 have hA:=ZfF g hl hr m u (ZbT (by omega))
 rw[B_pos ⟨hg,hm⟩]at hA
 have l1:([((1:Int),l.drop 1)]:List (Int×List Int)).length=1:=rfl
 have hcode:Zap.f g m u [(1,l.drop 1)]=some 0:=by
  have e1:(Ty.rd (.pr (.int .i64) (.sl 2 (.int .i64))) [((1:Int),l.drop 1)] 0)=(1,l.drop 1):=rfl
  rw[Zap.f_eq,hA,Option.bind_some,if_pos rfl,Zap.l0_eq,l1,if_pos (by omega),if_pos (by omega),if_pos (by omega),e1]
  dsimp only
  rw[hcI,Option.bind_some,if_pos rfl,Zap.l0_eq,w64 (by omega) (by omega),if_neg (by omega)]
 rw[Zbk.f_eq,hcode,Option.bind_some,if_pos rfl,hcy']
 rfl
theorem ZkP {g:List (List Int)} {m:Int} {u:List Int} (hg:Grp g) (hm:Mdl g m u) {a:Int} (a0:0≤a):Nums g m (prm m u a)∧Crs g m u (prm m u a)∧∀r,BestC m u (prm m u a) r→r=List.replicate g.length 0:=by
 have m2:=hm.m2;have hlu:=hm.len
 have hz:∀i:Int,rd (List.replicate g.length (0:Int)) i=0:=fun i=>by
  unfold rd
  rw[List.getD_eq_getElem?_getD,List.getElem?_replicate]
  split <;> rfl
 have hzl:(List.replicate g.length (0:Int)).length=g.length:=List.length_replicate
 have hzn:Nums g m (List.replicate g.length 0):=⟨by rw[hzl],fun i i0 i1=>by rw[hz];omega⟩
 have hzc:Crs g m u (List.replicate g.length 0):=fun x _ _ y _ _=>by rw[hz,hz,hz,Int.mul_zero,Int.add_zero,Int.zero_emod]
 have he:adm m (List.replicate g.length 0) (prm m u a)=prm m u a:=by
  refine ZfN (by rw[Zb3,hzl,Zcw,hlu]) fun i i0 i1 => ?_
  rw[Zb3,hzl]at i1
  obtain⟨n,rfl⟩:=Int.eq_ofNat_of_zero_le i0
  obtain⟨p0,p1⟩:=Zh0 (show 0 < m by omega) u a (n:Int) (by omega) (by rw[Zcw];omega)
  rw[ZdB (by rw[hzl];omega),hz,Int.zero_add,Int.emod_eq_of_lt p0 p1]
 obtain⟨c1,c2⟩:=hzc.adm hg hm hzn a
 rw[he]at c1 c2
 refine⟨c2,c1,fun r hr => ?_⟩
 have hb:=(ZeV hm hzn a0 r).1 (by rw[he];exact hr)
 have h1:=hb.2 _ ⟨0,by omega,(Zeu hm hzn).symm⟩
 rw[hzl]at h1
 obtain⟨b,_,e⟩:=hb.1
 have hrl:r.length=g.length:=by rw[e,Zb3,hzl]
 have hrn:∀i:Nat,i < g.length→0≤rd r (i:Int):=fun i hi=>by
  rw[e,ZdB (by rw[hzl];exact hi)]
  exact Int.emod_nonneg _ (by omega)
 rcases Ll.tri g.length r (List.replicate g.length 0)with q|q|q
 ·
  obtain⟨k,hk,_,hlt⟩:=q
  have:=hrn k hk
  rw[hz]at hlt
  omega
 ·
  exact Zci hrl hzl q
 ·
  exact absurd q h1
theorem ZgS (g:List (List Int)) (m:Int) (u:List Int) (hl:g.length≤maxLen) (hr:∀r∈g,r.length≤maxLen) (hu:u.length≤maxLen) :
  ∃(A Ps K:List (List Int)) (e:Int),(ZaM.f g m u=some (A,e)∧ZaT.f g m u=some (A,e))∧(Zam.f g m u=some (Ps,e)∧ZaB.f g m u=some (Ps,e))∧(Zag.f g m u=some (K,e)∧ZM.f g m u=some (K,e)) ∧
   ((A.length≤1000000000∧∀r∈A,r.length≤1048576)∧(Ps.length≤1000000000∧∀r∈Ps,r.length≤1048576)∧(K.length≤1000000000∧∀r∈K,r.length≤1048576)) ∧
   ((e=0∧Grp g∧Mdl g m u∧(∀r∈A,Nums g m r∧Crs g m u r)∧(∀r∈Ps,∃a:Nat,r=prm m u (a:Int))∧A.length=Ps.length*K.length∧Ps.length≤12∧A.length≤429981696)∨¬ e=0):=by
 have hA:=Zch g hl hr m u hu
 obtain⟨R1,x1,s1,i1,b1,d1⟩:=Zft g m u hl hr hu
 obtain⟨R2,x2,s2,i2,b2,d2⟩:=ZeN g m u hl hr hu
 obtain⟨R3,x3,s3,i3,b3,d3⟩:=Zes g m u hl hr hu
 by_cases h:GM g m u
 ·
  obtain⟨hg,hm⟩:=h
  rw[ZbU ⟨hg,hm⟩]at hA
  obtain⟨A,a1,a2,a3,a4,a5⟩:=ZeY hg hm
  obtain⟨Ps,p1,p2,p3,p4,p5⟩:=ZcL hg hm
  have e1:ZaM.f g m u=some (A,0):=by rw[ZaM.f_eq,hA,Option.bind_some,if_pos rfl,a1];rfl
  have e2:Zam.f g m u=some (Ps,0):=by rw[Zam.f_eq,hA,Option.bind_some,if_pos rfl,p1];rfl
  have e3:Zag.f g m u=some (keptL m u A,0):=by rw[Zag.f_eq,hA,Option.bind_some,if_pos rfl,p1,Option.bind_some,a1,Option.bind_some,Zi8 hg hm a4 a5 p3 p4 p5];rfl
  rw[e1]at i1
  rw[e2]at i2
  rw[e3]at i3
  obtain⟨rfl,rfl⟩:=Prod.mk.inj (Option.some.inj i1)
  obtain⟨rfl,rfl⟩:=Prod.mk.inj (Option.some.inj i2)
  obtain⟨rfl,rfl⟩:=Prod.mk.inj (Option.some.inj i3)
  have hcnt:=ZgQ hg hm (Zfp a3) (fun r=>⟨fun q=>⟨((a4 r).1 q).len,((a4 r).1 q).ent,((a4 r).1 q).con⟩,fun⟨q1,q2,q3⟩=>(a4 r).2 ⟨q1,q2,q3,by simp⟩⟩) (Zfp p2) p3
  exact⟨A,Ps,keptL m u A,0,⟨e1,s1⟩,⟨e2,s2⟩,⟨e3,s3⟩,⟨⟨b1,d1⟩,⟨by omega,d2⟩,⟨b3,d3⟩⟩,.inl ⟨rfl,hg,hm,fun r hr' => by
   have q:=(a4 r).1 hr'
   exact⟨⟨by rw[q.len],q.ent⟩,q.con⟩,fun r hr' => by obtain⟨a,_,e⟩:=(p3 r).1 hr';exact⟨a,e⟩,hcnt,p5,a5⟩⟩
 ·
  rw[ZbW h]at hA
  have e1:ZaM.f g m u=some ([],1):=by rw[ZaM.f_eq,hA,Option.bind_some,if_neg (by decide)]
  have e2:Zam.f g m u=some ([],1):=by rw[Zam.f_eq,hA,Option.bind_some,if_neg (by decide)]
  have e3:Zag.f g m u=some ([],1):=by rw[Zag.f_eq,hA,Option.bind_some,if_neg (by decide)]
  rw[e1]at i1
  rw[e2]at i2
  rw[e3]at i3
  obtain⟨rfl,rfl⟩:=Prod.mk.inj (Option.some.inj i1)
  obtain⟨rfl,rfl⟩:=Prod.mk.inj (Option.some.inj i2)
  obtain⟨rfl,rfl⟩:=Prod.mk.inj (Option.some.inj i3)
  exact⟨[],[],[],1,⟨e1,s1⟩,⟨e2,s2⟩,⟨e3,s3⟩,⟨⟨b1,d1⟩,⟨by omega,d2⟩,⟨b3,d3⟩⟩,.inr (by omega)⟩
end Go.Proofs.YthmcpmnhdbeahaaGreat.V
namespace Go.Proofs.YthmcpmnhdbeahaaGreat.Pure
open Go.RowKit Go.Proofs.YthmcpmnhdbeahaaGreat.D Go.Proofs.YthmcpmnhdbeahaaGreat.P Go.Proofs.YthmcpmnhdbeahaaGreat.V
theorem ZdQ (xs:List Int) (hl:xs.length≤1048576):ZaA.f xs xs=some true:=by
 have main:=up xs.length (fun k=>ZaA.l0 xs xs (k:Int)) (fun k hk=>by
  rw[ZaA.l0_eq,if_pos (by omega),if_pos (by omega),if_pos (by omega),if_pos (by omega),if_pos (by omega),if_pos rfl,wn (j:=k) (by omega)])
 simp only[Int.natCast_zero]at main
 rw[ZaA.f_eq,if_pos rfl,main,ZaA.l0_eq,if_neg (by omega)]
theorem ZkV (A:List (List Int)) (hl:A.length≤1000000000) (hr:∀r∈A,r.length≤1048576):Zbt.f A A=some true:=by
 have main:=up A.length (fun k=>Zbt.l0 A A (k:Int)) (fun k hk=>by
  rw[Zbt.l0_eq,if_pos (by omega),if_pos (by omega),if_pos (by omega),if_pos (by omega),if_pos (by omega),ZdQ _ (hr _ (Zeq (by omega) (by omega))),Option.bind_some,if_pos rfl,wn (j:=k) (by omega)])
 simp only[Int.natCast_zero]at main
 rw[Zbt.f_eq,if_pos rfl,main,Zbt.l0_eq,if_neg (by omega)]
theorem ZlW (n:Nat) (hn:n≤8):ZbM.f (List.replicate n 0)=some 0:=by
 have hl:(List.replicate n (0:Int)).length=n:=List.length_replicate
 have hz:∀i:Int,rd (List.replicate n (0:Int)) i=0:=fun i=>by
  unfold rd
  rw[List.getD_eq_getElem?_getD,List.getElem?_replicate]
  split <;> rfl
 have main:=up n (fun k=>ZbM.l0 (List.replicate n 0) 0 (k:Int)) (fun k hk=>by
  rw[ZbM.l0_eq,hl,if_pos (by omega),if_pos (by omega),if_pos (by omega),hz,Int.add_zero,w64 (x:=0) (by omega) (by omega),wn (j:=k) (by omega)])
 simp only[Int.natCast_zero]at main
 rw[ZbM.f_eq,main,ZbM.l0_eq,hl,if_neg (by omega)]
theorem Zd4 {c:List Int} (h:CodeL c):Zt.j1 c=some true:=by
 obtain⟨g1,m1,u1,l1,e1,s1,su1,sl1⟩:=Zeg h
 obtain⟨g2,m2,u2,l2,e2,s2,su2,sl2⟩:=Zgh h
 obtain⟨g3,m3,u3,x3,e3,s3,su3⟩:=ZeR h
 obtain⟨g4,m4,u4,l4,e4,s4,su4,sl4⟩:=Zd6 h
 obtain⟨R1,c1,i1,k1,b1⟩:=Zer g1 m1 u1 l1 s1.max.1 s1.max.2 (ZbT (by omega)) (ZbT (by omega))
 obtain⟨R2,c2,i2,k2⟩:=Zgj g2 m2 u2 l2 s2.max.1 s2.max.2 (ZbT (by omega)) (ZbT (by omega))
 obtain⟨R3,c3,i3,k3,b3⟩:=Zfa g3 m3 u3 x3 s3.max.1 s3.max.2 (ZbT (by omega))
 obtain⟨R4,c4,k4,i4,b4⟩:=Zd7 g4 m4 u4 l4 s4.max.1 s4.max.2 (ZbT (by omega)) (ZbT (by omega))
 rw[Zt.j1_eq,e1]
 dsimp only[Option.bind_some]
 rw[i1]
 dsimp only[Option.bind_some]
 rw[k1]
 dsimp only[Option.bind_some]
 rw[e2]
 dsimp only[Option.bind_some]
 rw[i2]
 dsimp only[Option.bind_some]
 rw[k2]
 dsimp only[Option.bind_some]
 rw[e3]
 dsimp only[Option.bind_some]
 rw[i3]
 dsimp only[Option.bind_some]
 rw[k3]
 dsimp only[Option.bind_some]
 rw[e4]
 dsimp only[Option.bind_some]
 rw[i4]
 dsimp only[Option.bind_some]
 rw[k4]
 dsimp only[Option.bind_some]
 rw[if_pos rfl,ZdQ R1 b1]
 dsimp only[Option.bind_some]
 rw[if_pos rfl,if_pos rfl,if_pos rfl,if_pos rfl,ZdQ R3 (by omega)]
 dsimp only[Option.bind_some]
 rw[if_pos rfl,if_pos rfl,ZdQ R4 b4]
 rfl
theorem ZeZ {c:List Int} (h:CodeL c) {g:List (List Int)} {m:Int} {u:List Int} (hg:Grp g) (hm:Mdl g m u) {A:List (List Int)} (hA:∀r∈A,Nums g m r∧Crs g m u r):Zt.l2 c A 0 g m u=some true:=by
 have n8:=hg.n8;have n1:=hg.n1
 have main:∀(n k:Nat),k+n=6→Zt.l2 c A (k:Int) g m u=some true:=by
  intro n
  induction n with
  | zero =>
   intro k hk
   rw[Zt.l2_eq]
   by_cases q:(k:Int) < (A.length:Int)
   ·
    rw[if_pos q,if_neg (by omega),Zd4 h]
   ·
    rw[if_neg q,Zd4 h]
  | succ n ih =>
   intro k hk
   rw[Zt.l2_eq]
   by_cases q:(k:Int) < (A.length:Int)
   rotate_left
   ·
    rw[if_neg q,Zd4 h]
   obtain⟨hn,hc⟩:=hA _ (Zeq (show(0:Int)≤(k:Int)by omega) q)
   have hl:=hn.1
   have hK:=Zfy g.length fun i=>decide (rd (row A (k:Int)) (i:Int)=0)
   have h0:T A (k:Int) 0=0:=ZgT hg hm hn hc
   rw[if_pos q,if_pos (by omega),if_pos (by omega),if_pos q,Zkq hg hm hn hc]
   dsimp only[Option.bind_some]
   rw[Zjy hg hm hn hc]
   dsimp only[Option.bind_some]
   have hcy:Zbk.f g m u 1 (List.drop (1:Int).toNat (row A (k:Int)))=some (true,0):=Zjr hg hm hn hc
   rw[if_pos (by omega),if_pos q,if_pos (by omega),hcy]
   dsimp only[Option.bind_some]
   rw[if_pos rfl,if_pos rfl,if_pos rfl,ZdQ _ (by omega)]
   dsimp only[Option.bind_some]
   rw[if_pos rfl,if_pos rfl,if_pos (by omega),if_pos q,if_pos (by omega),if_pos h0,wn (j:=k) (by omega)]
   exact ih (k+1) (by omega)
 exact main 6 0 (by omega)
theorem Zjs {c:List Int} (h:CodeL c) {g:List (List Int)} {m:Int} {u:List Int} (hg:Grp g) (hm:Mdl g m u) {A Ps:List (List Int)} (hA:∀r∈A,Nums g m r∧Crs g m u r) (hP:∀r∈Ps,∃a:Nat,r=prm m u (a:Int)):Zt.l0 c A Ps 0 g m u=some true:=by
 have n8:=hg.n8;have n1:=hg.n1
 have main:∀(n k:Nat),k+n=6→Zt.l0 c A Ps (k:Int) g m u=some true:=by
  intro n
  induction n with
  | zero =>
   intro k hk
   rw[Zt.l0_eq]
   by_cases q:(k:Int) < (Ps.length:Int)
   ·
    rw[if_pos q,if_neg (by omega),ZeZ h hg hm hA]
   ·
    rw[if_neg q,ZeZ h hg hm hA]
  | succ n ih =>
   intro k hk
   rw[Zt.l0_eq]
   by_cases q:(k:Int) < (Ps.length:Int)
   rotate_left
   ·
    rw[if_neg q,ZeZ h hg hm hA]
   obtain⟨a,ha⟩:=hP _ (Zeq (show(0:Int)≤(k:Int)by omega) q)
   obtain⟨hn,hc,hb⟩:=ZkP hg hm (a:=(a:Int)) (by omega)
   obtain⟨r,r1,r2,r3⟩:=ZiY hg hm hn hc
   obtain rfl:=hb r r2
   rw[if_pos q,if_pos (by omega),if_pos (by omega),if_pos q,ha,ZhH hg hm hn hc]
   dsimp only[Option.bind_some]
   rw[if_pos (by omega),if_pos q,r1]
   dsimp only[Option.bind_some]
   rw[if_pos rfl,if_pos rfl,if_pos rfl,ZlW _ n8]
   dsimp only[Option.bind_some]
   rw[if_pos rfl,wn (j:=k) (by omega)]
   exact ih (k+1) (by omega)
 exact main 6 0 (by omega)
theorem FnCrossedMaps_pure:∀(c:List Int),c.length≤maxLen→(∀x∈c,(Lit.int .u8 x).wf=true)→Zt.f c=some true:=by
 intro c hl hx
 rw[Zt.f_eq,ZbX.f_eq]
 dsimp only[Option.bind_some]
 by_cases hb:(c.length:Int) > 4096
 ·
  rw[decide_eq_true hb,if_pos rfl]
 rw[decide_eq_false hb,if_neg (by decide)]
 have h:CodeL c:=⟨fun x hx' => by have:=hx x hx';simp[Lit.wf,IntKind.bits,IntKind.signed,IntKind.min,IntKind.max]at this;omega,by omega⟩
 obtain⟨g,m,u,e1,s1,su⟩:=Zfq h
 obtain⟨A,Ps,K,e,⟨a1,a2⟩,⟨p1,p2⟩,⟨k1,k2⟩,⟨⟨b1,d1⟩,⟨b2,d2⟩,⟨b3,d3⟩⟩,hsem⟩:=ZgS g m u s1.max.1 s1.max.2 (ZbT (by omega))
 rw[e1]
 dsimp only[Option.bind_some]
 rw[a1]
 dsimp only[Option.bind_some]
 rw[a2]
 dsimp only[Option.bind_some]
 rw[p1]
 dsimp only[Option.bind_some]
 rw[p2]
 dsimp only[Option.bind_some]
 rw[k1]
 dsimp only[Option.bind_some]
 rw[k2]
 dsimp only[Option.bind_some]
 rw[if_pos rfl,ZkV A b1 d1]
 dsimp only[Option.bind_some]
 rw[if_pos rfl,if_pos rfl,ZkV Ps b2 d2]
 dsimp only[Option.bind_some]
 rw[if_pos rfl,if_pos rfl,ZkV K b3 d3]
 dsimp only[Option.bind_some]
 rw[if_pos rfl]
 rcases hsem with ⟨rfl,hg,hm,hA,hP,hcnt,hP12,hA4⟩|e0
 rotate_left
 ·
  rw[if_neg e0,Zd4 h]
 have hw:(A.length:Int)=wrapI ((Ps.length:Int)*(K.length:Int)):=by
  rw[←Int.natCast_mul,←hcnt,w64 (by omega) (by omega)]
 rw[if_pos rfl,if_pos hw,Zjs h hg hm hA hP]
end Go.Proofs.YthmcpmnhdbeahaaGreat.Pure
namespace Go.Proofs.YthmcpmnhdbeahaaGreat.shut
theorem mayEnter:Tryz.pinned.checked.prog.mayEnter=true:=by kernel_rfl
theorem lifted:(Rows.fnPairsRow.lifted == Tryz.pinned.checked.prog.liftsFinal)=true:=by kernel_rfl
theorem make:(Tryz.pinned.checked.prog.make == some Rows.fnPairsRow.make)=true:=by kernel_rfl
end Go.Proofs.YthmcpmnhdbeahaaGreat.shut
