/- What the proof of the law Fixed stands on, part 8: words, each Go function's Lean function, and that the Go code comes to its answers; no condition. (Packed by wip/myprint/pack.py out of what the kit's printer wrote, its words among it, partly by our patches of it, and out of texts of this session.) -/
import Derived.Sort.LotA
import Derived.Sort.LotB
import Derived.Sort.LotC
import Derived.Sort.LotD3
import Derived.Lib.ItoaNum
import Derived.Test.YthmcpmnhdbeahaaGreatRows
import Derived.WalkKit
import Derived.ProofKit
import Derived.KernelRfl
import Derived.Test.YthmcpmnhdbeahaaGreatKFixed3
import Derived.Test.YthmcpmnhdbeahaaGreatKFixed4
import Derived.Test.YthmcpmnhdbeahaaGreatKFixed5
import Derived.Test.YthmcpmnhdbeahaaGreatKFixed6
import Derived.Test.YthmcpmnhdbeahaaGreatKFixed7
set_option linter.unusedVariables false
set_option linter.unusedSimpArgs false
namespace Go.Proofs.YthmcpmnhdbeahaaGreat.R
open Go Go.RowKit Go.Proofs.YthmcpmnhdbeahaaGreat.D
noncomputable def bits_Len.f (a0:Int):Option Int:=if 0≤a0∧a0≤18446744073709551615 then some (Lib.bitLen a0.toNat:Int)else none
noncomputable def bits_Len.con:Con:=⟨[.one (.v (.int .u64))],[.one (.v (.int .i64))],Int,fun x=>bits_Len.f x.1,fun r=>((r,()),(()))⟩
theorem bits_Len.valid:Valid Tryz.prog 177 bits_Len.con:=Zh9 ⟨_,Tryz.func177,by kernel_rfl,by kernel_rfl⟩ fun x y w h=>by
 unfold bits_Len.f at h
 split at h
 ·
  cases h
  exact P.Tryz.bits_Len x w (by omega) (by omega)
 ·
  cases h
end Go.Proofs.YthmcpmnhdbeahaaGreat.R
set_option maxRecDepth 100000
namespace Go.Proofs.YthmcpmnhdbeahaaGreat.R
open Go Go.RowKit Go.Proofs.YthmcpmnhdbeahaaGreat.D
end Go.Proofs.YthmcpmnhdbeahaaGreat.R
namespace Go.Proofs.YthmcpmnhdbeahaaGreat.R
open Go Go.RowKit Go.Proofs.YthmcpmnhdbeahaaGreat.D
end Go.Proofs.YthmcpmnhdbeahaaGreat.R
namespace Go.Proofs.YthmcpmnhdbeahaaGreat.R
open Go Go.RowKit Go.Proofs.YthmcpmnhdbeahaaGreat.D
end Go.Proofs.YthmcpmnhdbeahaaGreat.R
namespace Go.Proofs.YthmcpmnhdbeahaaGreat.R
open Go Go.RowKit Go.Proofs.YthmcpmnhdbeahaaGreat.D
end Go.Proofs.YthmcpmnhdbeahaaGreat.R
namespace Go.Proofs.YthmcpmnhdbeahaaGreat.R
open Go Go.RowKit Go.Proofs.YthmcpmnhdbeahaaGreat.D
end Go.Proofs.YthmcpmnhdbeahaaGreat.R
namespace Go.Proofs.YthmcpmnhdbeahaaGreat.R
open Go Go.RowKit Go.Proofs.YthmcpmnhdbeahaaGreat.D
end Go.Proofs.YthmcpmnhdbeahaaGreat.R
namespace Go.Proofs.YthmcpmnhdbeahaaGreat.R
open Go Go.RowKit Go.Proofs.YthmcpmnhdbeahaaGreat.D
end Go.Proofs.YthmcpmnhdbeahaaGreat.R
namespace Go.Proofs.YthmcpmnhdbeahaaGreat.R
open Go Go.RowKit Go.Proofs.YthmcpmnhdbeahaaGreat.D
end Go.Proofs.YthmcpmnhdbeahaaGreat.R
namespace Go.Proofs.YthmcpmnhdbeahaaGreat.R
open Go Go.RowKit Go.Proofs.YthmcpmnhdbeahaaGreat.D
end Go.Proofs.YthmcpmnhdbeahaaGreat.R
namespace Go.Proofs.YthmcpmnhdbeahaaGreat.R
open Go Go.RowKit Go.Proofs.YthmcpmnhdbeahaaGreat.D
end Go.Proofs.YthmcpmnhdbeahaaGreat.R
namespace Go.Proofs.YthmcpmnhdbeahaaGreat.R
open Go Go.RowKit Go.Proofs.YthmcpmnhdbeahaaGreat.D
end Go.Proofs.YthmcpmnhdbeahaaGreat.R
namespace Go.Proofs.YthmcpmnhdbeahaaGreat.R
open Go Go.RowKit Go.Proofs.YthmcpmnhdbeahaaGreat.D
end Go.Proofs.YthmcpmnhdbeahaaGreat.R
namespace Go.Proofs.YthmcpmnhdbeahaaGreat.R
open Go Go.RowKit Go.Proofs.YthmcpmnhdbeahaaGreat.D
end Go.Proofs.YthmcpmnhdbeahaaGreat.R
namespace Go.Proofs.YthmcpmnhdbeahaaGreat.R
open Go Go.RowKit Go.Proofs.YthmcpmnhdbeahaaGreat.D
end Go.Proofs.YthmcpmnhdbeahaaGreat.R
namespace Go.Proofs.YthmcpmnhdbeahaaGreat.R
open Go Go.RowKit Go.Proofs.YthmcpmnhdbeahaaGreat.D
end Go.Proofs.YthmcpmnhdbeahaaGreat.R
namespace Go.Proofs.YthmcpmnhdbeahaaGreat.R
open Go Go.RowKit Go.Proofs.YthmcpmnhdbeahaaGreat.D
end Go.Proofs.YthmcpmnhdbeahaaGreat.R
namespace Go.Proofs.YthmcpmnhdbeahaaGreat.D
open Go Go.RowKit
def hd (hs:List Value) (i:Nat):Value:=hs.getD i (.slice none 0 0)
def ct (xs:List (List Int)) (i:Nat):List Int:=xs.getD i []
theorem Zki {hs:List Value} {i:Nat} (h:i < hs.length):hs[i]? = some (hd hs i):=by
 unfold hd
 rw[List.getD_eq_getElem?_getD,List.getElem?_eq_getElem h]
 rfl
theorem Zk5 {xs:List (List Int)} {i:Nat} (h:i < xs.length):xs[i]? = some (ct xs i):=by
 unfold ct
 rw[List.getD_eq_getElem?_getD,List.getElem?_eq_getElem h]
 rfl
def Sel (hs:List Value) (xs:List (List Int)) (hs' : List Value) (ys:List (List Int)):Prop:=∃sel:List Nat,sel.Nodup∧(∀i∈sel,i < xs.length)∧hs' = sel.map (hd hs)∧ys=sel.map (ct xs)
section
variable {P:Program} {Z:Nat→Prop} {w:World}
structure Parts (w:World) (e e' : TypeId) (k:IntKind) (hdr:Value) (xs:List (List Int)) (F:Nat→Prop) (hs:List Value) (Fs:Nat→Nat→Prop):Prop where
 len:hs.length=xs.length
 raw:∀Z:Nat→Prop,ZbJ w e 1 (Rep Z w true .raw) hdr hs (fun b=>hdr.ownBlock=some b)
 el:∀i,i < xs.length→ZbJ w e' 1 (Rep (fun _=>False) w true (.int k)) (hd hs i) (ct xs i) (Fs i)∧NilOk e' (ct xs i).length (hd hs i)
 one:∀i,i < xs.length→(hd hs i).oneCell' = true
 sub:∀i b,Fs i b→i < xs.length∧F b∧hdr.ownBlock≠some b
 dis:∀i j b,i≠j→Fs i b→¬ Fs j b
 own:∀b,hdr.ownBlock=some b→F b
theorem parts {e e' : TypeId} {k:IntKind} {hdr:Value} {xs:List (List Int)} {F:Nat→Prop} (h:ZbJ w e 1 (Rep Z w true (.sl e' (.int k))) hdr xs F):∃hs Fs,Parts w e e' k hdr xs F hs Fs:=by
 obtain⟨inner,ho,hb,Fs,hel,hsub,hd0⟩:=h
 have hl:inner.length=xs.length:=by have:=ho.1;omega
 have one:∀i,i < xs.length→(inner.drop (i*1)).take 1=[hd inner i]:=fun i hi=>by
  rw[Nat.mul_one]
  have e:inner[i]'(by omega)=hd inner i:=Option.some.inj ((List.getElem?_eq_getElem (by omega)).symm.trans (Zki (hs:=inner) (i:=i) (by omega)))
  rw[List.drop_eq_getElem_cons (by omega:i < inner.length),e]
  rfl
 have el:∀i,i < xs.length→ZbJ w e' 1 (Rep Z w true (.int k)) (hd inner i) (ct xs i) (Fs i)∧NilOk e' (ct xs i).length (hd inner i):=fun i hi=>by
  obtain⟨h1,h2,h3,h4⟩:=hel i _ (Zk5 hi)
  rw[one i hi]at h2
  cases h2
  exact⟨h3,h4⟩
 refine⟨inner,fun i b=>i < xs.length∧Fs i b,hl,fun Z2=>⟨inner,by rw[hl];exact ho,fun b hb' => hb', fun _ _=>False,fun j p hp => ?_,fun _ _ h=>h.elim,fun _ _ _ _ h=>h.elim⟩,fun i hi => ?_,fun i hi => ?_,fun i b hb' => ⟨hb'.1,hsub i b hb'.2⟩,fun i j b hij h1 h2=>hd0 i j b hij h1.2 h2.2,hb⟩
 ·
  have hj:j < xs.length:=by have:=(List.getElem?_eq_some_iff.1 hp).1;omega
  have e:=Zki (hs:=inner) (i:=j) (by omega)
  rw[hp]at e
  cases e
  obtain⟨⟨inner2,h1,_⟩,_⟩:=el j hj
  exact⟨one j hj,Zcw h1⟩
 ·
  obtain⟨h1,h2⟩:=el i hi
  exact⟨ZbJ.imp h1 (fun b hb' => ⟨hi,hb'⟩) (fun _ _=>rfl) fun p cs G _ hp=>hp,h2⟩
 ·
  obtain⟨⟨inner2,h1,_⟩,_⟩:=el i hi
  exact Zcw h1
theorem Parts.view {e e' : TypeId} {k:IntKind} {hdr:Value} {xs:List (List Int)} {F:Nat→Prop} {hs:List Value} {Fs:Nat→Nat→Prop} (h:Parts w e e' k hdr xs F hs Fs) {w1:World} (hsm:∀i b,Fs i b→w1.heap[b]? = w.heap[b]?) {i:Nat} (hi:i < xs.length) :
  Rep (fun b=>∃i,Fs i b) w1 false (.sl e' (.int k)) (ct xs i) [hd hs i] fun _=>False:=by
 obtain⟨k1,k2⟩:=h.el i hi
 have k3:Rep (fun _=>False) w1 true (.sl e' (.int k)) (ct xs i) [hd hs i] (Fs i):=⟨hd hs i,rfl,ZbJ.imp k1 (fun _ h=>h) (fun b hb=>hsm i b hb) fun p cs G _ hp=>hp,k2⟩
 exact Rep.imp _ (Rep.view _ (fun _=>False) k3) (fun b hb=>hb.elim (fun h=>h.elim) fun h=>⟨i,h⟩) (fun _ h=>h) (fun _ _=>rfl) (fun _ _=>rfl)
theorem Parts.same {e e' : TypeId} {k:IntKind} {hdr:Value} {xs:List (List Int)} {F:Nat→Prop} {hs:List Value} {Fs:Nat→Nat→Prop} (h:Parts w e e' k hdr xs F hs Fs) {i j:Nat} (hi:i < xs.length) (hj:j < xs.length) (he:hd hs i=hd hs j):ct xs i=ct xs j:=by
 obtain⟨⟨in1,o1,b1,G1,e1,_,_⟩,_⟩:=h.el i hi
 obtain⟨⟨in2,o2,b2,G2,e2,_,_⟩,_⟩:=h.el j hj
 rw[←he]at o2 b2
 by_cases hij:i=j
 ·
  rw[hij]
 have nil:∀{v:Value} {n m:Nat} {a b:List Value},(v = .slice none 0 0∧n=0)→w.ownsRow 0 e' 1 v m b→m=0:=fun {v n m a b} h1 h2=>by
  rcases h2.2 with h|⟨g,cap,cur,h,_⟩
  ·
   exact h.2
  ·
   rw[h1.1]at h;cases h
 rcases o1.2 with q1|⟨g1,cap1,cur1,q1,_⟩
 ·
  have n1:(ct xs i).length=0:=q1.2
  have n2:(ct xs j).length=0:=nil (a:=in1) q1 o2
  rw[List.length_eq_zero_iff.1 n1,List.length_eq_zero_iff.1 n2]
 ·
  have f1:=b1 g1 (by rw[q1];rfl)
  have f2:=b2 g1 (by rw[q1];rfl)
  exact absurd f2 (h.dis i j g1 hij f1)
end
def Good2 {β : Type} (f:List Value→(Value→Value→Option β)→Option (List Value)) (xs:List (List Int)) (c:List Int→List Int→Option β) (ys:List (List Int)):Prop :=
 ∀(hs:List Value) (c' : Value→Value→Option β),hs.length=xs.length→(∀i j,i < xs.length→j < xs.length→c' (hd hs i) (hd hs j)=c (ct xs i) (ct xs j))→∃hs', f hs c' = some hs' ∧ Sel hs xs hs' ys
noncomputable def G2 {β : Type} (f:List Value→(Value→Value→Option β)→Option (List Value)) (xs:List (List Int)) (c:List Int→List Int→Option β):Option (List (List Int)):=open Classical in if h:∃ys,Good2 f xs c ys then some (Classical.choose h)else none
def Good1 {β : Type} (f:List Value→(Value→Option β)→Option (List Value)) (xs:List (List Int)) (c:List Int→Option β) (ys:List (List Int)):Prop :=
 ∀(hs:List Value) (c' : Value→Option β),hs.length=xs.length→(∀i,i < xs.length→c' (hd hs i)=c (ct xs i))→∃hs', f hs c' = some hs' ∧ Sel hs xs hs' ys
noncomputable def G1 {β : Type} (f:List Value→(Value→Option β)→Option (List Value)) (xs:List (List Int)) (c:List Int→Option β):Option (List (List Int)):=open Classical in if h:∃ys,Good1 f xs c ys then some (Classical.choose h)else none
end Go.Proofs.YthmcpmnhdbeahaaGreat.D
namespace Go.Proofs.YthmcpmnhdbeahaaGreat.D
open Go Go.RowKit
section
variable {P:Program} {B Z:Nat→Prop} {w:World} {e e' : TypeId} {k:IntKind} {hdr:Value} {xs:List (List Int)} {F:Nat→Prop} {hs:List Value} {Fs:Nat→Nat→Prop} {r:Ty}
end
end Go.Proofs.YthmcpmnhdbeahaaGreat.D
namespace Go.Proofs.YthmcpmnhdbeahaaGreat.P
open Go Go.RowKit Go.Proofs.YthmcpmnhdbeahaaGreat.D
end Go.Proofs.YthmcpmnhdbeahaaGreat.P
namespace Go.Proofs.YthmcpmnhdbeahaaGreat.P
open Go Go.RowKit Go.Proofs.YthmcpmnhdbeahaaGreat.D
end Go.Proofs.YthmcpmnhdbeahaaGreat.P
namespace Go.Proofs.YthmcpmnhdbeahaaGreat.P
open Go Go.RowKit Go.Proofs.YthmcpmnhdbeahaaGreat.D
end Go.Proofs.YthmcpmnhdbeahaaGreat.P
namespace Go.Proofs.YthmcpmnhdbeahaaGreat.P
open Go Go.RowKit Go.Proofs.YthmcpmnhdbeahaaGreat.D
end Go.Proofs.YthmcpmnhdbeahaaGreat.P
set_option maxHeartbeats 4000000
set_option maxRecDepth 20000
namespace Go.Proofs.YthmcpmnhdbeahaaGreat.V
open Go.RowKit Go.Proofs.YthmcpmnhdbeahaaGreat.D Go.Proofs.YthmcpmnhdbeahaaGreat.P
def ConP (g:List (List Int)) (m:Int) (u v r:List Int) (n:Nat):Prop:=∀x:Int,0≤x→x < n→∀y:Int,0≤y→y < n→T g x y < n→(rd r x+rd u x*rd r y+At g v [x,y])%m=rd r (T g x y)
theorem ConP.pre {g:List (List Int)} {m:Int} {u v r r' : List Int} {n n' : Nat} (h:ConP g m u v r n) (hn:n' ≤ n) (hg:Grp g) (hN:n≤g.length) (he:∀i:Int,0≤i→i < n' → rd r' i=rd r i):ConP g m u v r' n' := by
 intro x x0 x1 y y0 y1 ht
 have e:=h x x0 (by omega) y y0 (by omega) (by omega)
 obtain⟨t0,_⟩:=hg.ent x y x0 (by omega) y0 (by omega)
 rw[he x x0 x1,he y y0 y1,he _ t0 ht]
 exact e
end Go.Proofs.YthmcpmnhdbeahaaGreat.V
set_option maxRecDepth 100000
namespace Go.Proofs.YthmcpmnhdbeahaaGreat.P
open Go Go.RowKit Go.Proofs.YthmcpmnhdbeahaaGreat.D
end Go.Proofs.YthmcpmnhdbeahaaGreat.P
namespace Go.Proofs.YthmcpmnhdbeahaaGreat.P
open Go Go.RowKit Go.Proofs.YthmcpmnhdbeahaaGreat.D
end Go.Proofs.YthmcpmnhdbeahaaGreat.P
namespace Go.Proofs.YthmcpmnhdbeahaaGreat.P
open Go Go.RowKit Go.Proofs.YthmcpmnhdbeahaaGreat.D
end Go.Proofs.YthmcpmnhdbeahaaGreat.P
namespace Go.Proofs.YthmcpmnhdbeahaaGreat.P
open Go Go.RowKit Go.Proofs.YthmcpmnhdbeahaaGreat.D
end Go.Proofs.YthmcpmnhdbeahaaGreat.P
namespace Go.Proofs.YthmcpmnhdbeahaaGreat.P
open Go Go.RowKit Go.Proofs.YthmcpmnhdbeahaaGreat.D
end Go.Proofs.YthmcpmnhdbeahaaGreat.P
namespace Go.Proofs.YthmcpmnhdbeahaaGreat.P
open Go Go.RowKit Go.Proofs.YthmcpmnhdbeahaaGreat.D
end Go.Proofs.YthmcpmnhdbeahaaGreat.P
namespace Go.Proofs.YthmcpmnhdbeahaaGreat.P
open Go Go.RowKit Go.Proofs.YthmcpmnhdbeahaaGreat.D
end Go.Proofs.YthmcpmnhdbeahaaGreat.P
namespace Go.Proofs.YthmcpmnhdbeahaaGreat.P
open Go Go.RowKit Go.Proofs.YthmcpmnhdbeahaaGreat.D
end Go.Proofs.YthmcpmnhdbeahaaGreat.P
set_option maxHeartbeats 2000000
set_option maxRecDepth 20000
namespace Go.Proofs.YthmcpmnhdbeahaaGreat.V
open Go.RowKit Go.Proofs.YthmcpmnhdbeahaaGreat.D Go.Proofs.YthmcpmnhdbeahaaGreat.P
end Go.Proofs.YthmcpmnhdbeahaaGreat.V
set_option maxRecDepth 100000
namespace Go.Proofs.YthmcpmnhdbeahaaGreat.P
open Go Go.RowKit Go.Proofs.YthmcpmnhdbeahaaGreat.D
end Go.Proofs.YthmcpmnhdbeahaaGreat.P
namespace Go.Proofs.YthmcpmnhdbeahaaGreat.R
open Go Go.RowKit Go.Proofs.YthmcpmnhdbeahaaGreat.D
end Go.Proofs.YthmcpmnhdbeahaaGreat.R
namespace Go.Proofs.YthmcpmnhdbeahaaGreat.P
open Go Go.RowKit Go.Proofs.YthmcpmnhdbeahaaGreat.D
end Go.Proofs.YthmcpmnhdbeahaaGreat.P
set_option maxHeartbeats 4000000
set_option maxRecDepth 20000
namespace Go.Proofs.YthmcpmnhdbeahaaGreat.V
open Go.RowKit Go.Proofs.YthmcpmnhdbeahaaGreat.D Go.Proofs.YthmcpmnhdbeahaaGreat.P
def Ll (W:Nat) (x y:List Int):Prop:=∃j:Nat,j < W∧(∀i:Nat,i < j→rd x (i:Int)=rd y (i:Int))∧rd x (j:Int) < rd y (j:Int)
theorem Ll.irrefl {W:Nat} {x:List Int}:¬ Ll W x x:=fun⟨j,_,_,h⟩=>by omega
theorem Ll.trans {W:Nat} {x y z:List Int} (h:Ll W x y) (k:Ll W y z):Ll W x z:=by
 obtain⟨i,i1,i2,i3⟩:=h
 obtain⟨j,j1,j2,j3⟩:=k
 rcases Nat.lt_trichotomy i j with q|q|q
 ·
  exact⟨i,i1,fun t ht=>(i2 t ht).trans (j2 t (by omega)),by rw[←j2 i q];exact i3⟩
 ·
  subst q;exact⟨i,i1,fun t ht=>(i2 t ht).trans (j2 t ht),by omega⟩
 ·
  exact⟨j,j1,fun t ht=>(i2 t (by omega)).trans (j2 t ht),by rw[i2 j q];exact j3⟩
theorem Ll.asymm {W:Nat} {x y:List Int} (h:Ll W x y):¬ Ll W y x:=fun k=>Ll.irrefl (h.trans k)
theorem Ll.tri (W:Nat) (x y:List Int):Ll W x y∨(∀i:Nat,i < W→rd x (i:Int)=rd y (i:Int))∨Ll W y x:=by
 have main:∀k,k≤W→Ll W x y∨(∀i:Nat,i < k→rd x (i:Int)=rd y (i:Int))∨Ll W y x:=by
  intro k
  induction k with
  | zero=>exact fun _ => .inr (.inl fun i hi=>by omega)
  | succ k ih =>
   intro hk
   rcases ih (by omega)with h|h|h
   ·
    exact .inl h
   ·
    rcases Int.lt_trichotomy (rd x (k:Int)) (rd y (k:Int))with q|q|q
    ·
     exact .inl ⟨k,by omega,h,q⟩
    ·
     refine .inr (.inl fun i hi => ?_)
     by_cases e:i=k
     ·
      rw[e];exact q
     ·
      exact h i (by omega)
    ·
     exact .inr (.inr ⟨k,by omega,fun i hi=>(h i hi).symm,q⟩)
   ·
    exact .inr (.inr h)
 exact main W (Nat.le_refl _)
theorem Zgh {W:Nat} {x y:List Int} (hx:x.length=W) (hy:y.length=W) (h:∀i:Nat,i < W→rd x (i:Int)=rd y (i:Int)):x=y :=
 Zhu (by omega) fun i i0 i1=>by
  obtain⟨n,rfl⟩:=Int.eq_ofNat_of_zero_le i0
  exact h n (by omega)
theorem Ll.le_trans {W:Nat} {x y z:List Int} (hx:x.length=W) (hy:y.length=W) (hz:z.length=W) (h:¬ Ll W y x) (k:¬ Ll W z y):¬ Ll W z x:=by
 intro q
 rcases Ll.tri W x y with a|a|a
 ·
  rcases Ll.tri W y z with b|b|b
  ·
   exact Ll.asymm q (a.trans b)
  ·
   have:=Zgh hy hz b;subst this;exact Ll.asymm q a
  ·
   exact k b
 ·
  have:=Zgh hx hy a;subst this
  exact k q
 ·
  exact h a
end Go.Proofs.YthmcpmnhdbeahaaGreat.V
namespace Go.Proofs.YthmcpmnhdbeahaaGreat.V
open Go Go.RowKit Go.Proofs.YthmcpmnhdbeahaaGreat.D Go.Proofs.YthmcpmnhdbeahaaGreat.P
end Go.Proofs.YthmcpmnhdbeahaaGreat.V
namespace Go.Proofs.YthmcpmnhdbeahaaGreat.V
open Go Go.RowKit Go.Proofs.YthmcpmnhdbeahaaGreat.D Go.Proofs.YthmcpmnhdbeahaaGreat.P
end Go.Proofs.YthmcpmnhdbeahaaGreat.V
namespace Go.Proofs.YthmcpmnhdbeahaaGreat.V
open Go Go.RowKit Go.Proofs.YthmcpmnhdbeahaaGreat.D Go.Proofs.YthmcpmnhdbeahaaGreat.P
open Go.Sort (swp insInner insOuter insertionSort siftDown heapBuild heapPop heapSort scanUp scanDown partLoop partition partEqLoop partitionEqual scanSorted shiftDown shiftUp partialIns partialInsertionSort reverseLoop reverseRange SWO PermIn SortedIn)
noncomputable instance:Inhabited Value:=⟨Value.slice none 0 0⟩
variable {H:Value→Prop} {lt:Value→Value→Bool} {C:Value→Value→Option Int}
structure Al (H:Value→Prop) (N:Nat) (d:Array Value):Prop where
 sz:d.size=N
 all:∀i,i < N→H d[i]!
theorem w2 {j:Nat} (h:j≤4000000000000000000):wrapI (2*(j:Int))=((2*j:Nat):Int):=by rw[w64 (by omega) (by omega)];omega
end Go.Proofs.YthmcpmnhdbeahaaGreat.V
namespace Go.Proofs.YthmcpmnhdbeahaaGreat.V
open Go Go.RowKit Go.Proofs.YthmcpmnhdbeahaaGreat.D Go.Proofs.YthmcpmnhdbeahaaGreat.P
open Go.Sort (swp insInner insOuter insertionSort siftDown heapBuild heapPop heapSort scanUp scanDown partLoop partition partEqLoop partitionEqual scanSorted shiftDown shiftUp partialIns partialInsertionSort reverseLoop reverseRange SWO PermIn SortedIn)
variable {H:Value→Prop} {lt:Value→Value→Bool} {C:Value→Value→Option Int}
end Go.Proofs.YthmcpmnhdbeahaaGreat.V
namespace Go.Proofs.YthmcpmnhdbeahaaGreat.V
open Go Go.RowKit Go.Proofs.YthmcpmnhdbeahaaGreat.D Go.Proofs.YthmcpmnhdbeahaaGreat.P
open Go.Sort (swp insInner insOuter insertionSort siftDown heapBuild heapPop heapSort scanUp scanDown partLoop partition partEqLoop partitionEqual scanSorted shiftDown shiftUp partialIns partialInsertionSort reverseLoop reverseRange SWO PermIn SortedIn fixDown fixUp)
variable {H:Value→Prop} {lt:Value→Value→Bool} {C:Value→Value→Option Int}
theorem Al.perm {N a b:Nat} {d d' : Array Value} (hd:Al H N d) (hb:b≤N) (h:PermIn a b d d'):Al H N d' where
 sz:=h.1.trans hd.sz
 all:=fun i hi=>by
  by_cases k:a≤i∧i < b
  ·
   exact Go.Sort.permIn_all d d' a b H (by rw[hd.sz];exact hb) h (fun j h1 h2=>hd.all j (by omega)) i k.1 k.2
  ·
   rw[h.2.1 i (by omega)];exact hd.all i hi
end Go.Proofs.YthmcpmnhdbeahaaGreat.V
set_option maxHeartbeats 8000000
namespace Go.Proofs.YthmcpmnhdbeahaaGreat.V
open Go Go.RowKit Go.Proofs.YthmcpmnhdbeahaaGreat.D Go.Proofs.YthmcpmnhdbeahaaGreat.P
open Go.Sort (swp insertionSort heapSort partition partitionEqual partialInsertionSort reverseRange SWO PermIn SortedIn)
variable {H:Value→Prop} {lt:Value→Value→Bool} {C:Value→Value→Option Int}
def Res (lt:Value→Value→Bool) (a b:Nat) (d:Array Value) (X:Option (List Value)):Prop:=∃d', X=some d'.toList∧PermIn a b d d' ∧ SortedIn lt a b d'
theorem Res.tr {a b:Nat} {d d1:Array Value} {X:Option (List Value)} (h:Res lt a b d1 X) (hp:PermIn a b d d1):Res lt a b d X:=by
 obtain⟨d', h1,h2,h3⟩:=h
 exact⟨d', h1,Go.Sort.permIn_trans _ _ _ a b hp h2,h3⟩
end Go.Proofs.YthmcpmnhdbeahaaGreat.V
set_option maxHeartbeats 4000000
namespace Go.Proofs.YthmcpmnhdbeahaaGreat.V
open Go Go.RowKit Go.Proofs.YthmcpmnhdbeahaaGreat.D Go.Proofs.YthmcpmnhdbeahaaGreat.P
def CrP (g:List (List Int)) (m:Int) (u r:List Int) (n:Nat):Prop:=∀x:Int,0≤x→x < n→∀y:Int,0≤y→y < n→T g x y < n→rd r (T g x y)=(rd r x+rd u x*rd r y)%m
theorem CrP.pre {g:List (List Int)} {m:Int} {u r r' : List Int} {n n' : Nat} (h:CrP g m u r n) (hn:n' ≤ n) (hg:Grp g) (hN:n≤g.length) (he:∀i:Int,0≤i→i < n' → rd r' i=rd r i):CrP g m u r' n' := by
 intro x x0 x1 y y0 y1 ht
 have e:=h x x0 (by omega) y y0 (by omega) (by omega)
 obtain⟨t0,_⟩:=hg.ent x y x0 (by omega) y0 (by omega)
 rw[he x x0 x1,he y y0 y1,he _ t0 ht]
 exact e
end Go.Proofs.YthmcpmnhdbeahaaGreat.V
namespace Go.Proofs.YthmcpmnhdbeahaaGreat.V
open Go Go.RowKit Go.Proofs.YthmcpmnhdbeahaaGreat.D Go.Proofs.YthmcpmnhdbeahaaGreat.P
end Go.Proofs.YthmcpmnhdbeahaaGreat.V
namespace Go.Proofs.YthmcpmnhdbeahaaGreat.V
open Go Go.RowKit Go.Proofs.YthmcpmnhdbeahaaGreat.D Go.Proofs.YthmcpmnhdbeahaaGreat.P
structure Src (c:List Int) (i:Int):Prop where
 ent:∀x∈c,0≤x∧x≤255
 len:c.length≤4096
 i0:0≤i
 i1:i≤c.length
theorem wrU {x:Int} (h0:0≤x) (h1:x < 18446744073709551616):wr .u64 x=x:=by
 show hid _=_
 rw[Zcn]
 simp[IntKind.wrap,IntKind.bits,IntKind.signed]
 omega
theorem andB (x:Int) {m:Int} (m0:0≤m) (hm:m < 18446744073709551616):∃o:Int,andI .u64 x m=o∧0≤o∧o≤m:=by
 obtain⟨M,rfl⟩:=Int.eq_ofNat_of_zero_le m0
 have hlt:(BitVec.ofInt 64 x &&& BitVec.ofInt 64 (M:Int)).toNat≤M:=by
  rw[BitVec.toNat_and]
  refine Nat.le_trans Nat.and_le_right ?_
  rw[BitVec.toNat_ofInt]
  omega
 refine⟨((BitVec.ofInt 64 x &&& BitVec.ofInt 64 (M:Int)).toNat:Nat),?_,by omega,by omega⟩
 show hid _=_
 rw[Zcn]
 show wr .u64 (((BitVec.ofInt 64 x &&& BitVec.ofInt 64 (M:Int)).toNat:Nat):Int)=_
 exact wrU (by omega) (by omega)
theorem From_ {c:List Int} (hc:∀x∈c,0≤x∧x≤255) (hl:c.length≤4096):∃h,Zau.f c=some (c,0,h)∧Src c 0:=by
 have main:∀(n k:Nat) (h:Int),k+n=c.length→∃h', Zau.l0 c (k:Int) c 0 h=some (c,0,h'):=by
  intro n
  induction n with
  | zero =>
   intro k h hk
   exact⟨h,by rw[Zau.l0_eq,if_neg (by omega)]⟩
  | succ n ih =>
   intro k h hk
   obtain⟨h', e⟩:=ih (k+1) (wr .u64 ((wr .u64 ((wr .u64 (h*1099511628211))+(wr .u64 (rd c (k:Int)))))+197)) (by omega)
   refine⟨h', ?_⟩
   rw[Zau.l0_eq,if_pos (by omega),if_pos (by omega),if_pos (by omega),if_pos (by omega),wn (j:=k) (by omega)]
   exact e
 obtain⟨h,e⟩:=main c.length 0 (wr .u64 (13631+(wr .u64 (c.length:Int)))) (by omega)
 exact⟨h,by rw[Zau.f_eq];exact e,hc,hl,by omega,by omega⟩
theorem Next_ {c:List Int} {i:Int} (h:Src c i) (hh n:Int) (hn:n≤4611686018427387904):∃x j h', ZZ.f c i hh n=some (x,c,j,h')∧Src c j∧0≤x∧(1≤n→x < n)∧(n < 1→x=0):=by
 have hl:=h.len
 rw[ZZ.f_eq]
 by_cases h1:n < 1
 ·
  rw[if_pos h1]
  exact⟨0,i,hh,rfl,h,by omega,fun q=>by omega,fun _=>rfl⟩
 rw[if_neg h1]
 obtain⟨o,ho,o0,o1⟩:=andB (shrI .u64 (wr .u64 ((wr .u64 (hh*6364136223846793005))+1442695040888963407)) 33) (m:=16777215) (by omega) (by omega)
 rw[ho,w64 (x:=o) (by omega) (by omega)]
 by_cases h2:i < (c.length:Int)
 ·
  obtain⟨a0,a1⟩:=h.ent _ (Zce h.i0 h2)
  have i0:=h.i0
  rw[if_pos h2,if_pos h.i0,if_pos h2,if_neg (by omega),w64 (x:=rd c i) (by omega) (by omega),w64 (x:=o+rd c i) (by omega) (by omega),w64 (x:=i+1) (by omega) (by omega),Zbz (show 0≤o+rd c i by omega)]
  exact⟨_,_,_,rfl,⟨h.ent,h.len,by omega,by omega⟩,Int.emod_nonneg _ (by omega),fun _=>Int.emod_lt_of_pos _ (by omega),fun q=>by omega⟩
 ·
  rw[if_neg h2,if_neg (by omega),Zbz o0]
  exact⟨_,_,_,rfl,h,Int.emod_nonneg _ (by omega),fun _=>Int.emod_lt_of_pos _ (by omega),fun q=>by omega⟩
theorem Pick_ {c:List Int} {i:Int} (h:Src c i) (hh:Int) (L:List Int) (h0:0 < L.length) (h1:L.length≤1000):∃x j h', ZaS.f c i hh L=some (x,c,j,h')∧Src c j∧x∈L:=by
 obtain⟨x,j,h', e,s,x0,x1,_⟩:=Next_ h hh (L.length:Int) (by omega)
 have x1:=x1 (by omega)
 exact⟨rd L x,j,h', by rw[ZaS.f_eq,e,Option.bind_some,if_pos x0,if_pos x1],s,Zce x0 x1⟩
structure OrdL (n:Nat) (p:List Int):Prop where
 len:p.length=n
 ent:∀x∈p,0≤x∧x < n
 nd:p.Nodup
theorem OrdL.ordr {n:Nat} {p:List Int} (h:OrdL n p):Ordr n p where
 len:=h.len
 ent:=fun i hi=>h.ent _ (Zce (by omega) (by rw[h.len];omega))
 inj:=fun i j hi hj e=>by
  rw[rd_get (by rw[h.len];exact hi),rd_get (by rw[h.len];exact hj)]at e
  have hi' : i < p.length:=by rw[h.len];exact hi
  have hj' : j < p.length:=by rw[h.len];exact hj
  exact(List.getElem?_inj hi' h.nd).1 (by rw[List.getElem?_eq_getElem hi', List.getElem?_eq_getElem hj', e])
theorem Zk4 {c:List Int} {i:Int} (h:Src c i) (hh:Int) {n:Nat} (hn:n≤100):∃p j h', ZL.f c i hh (n:Int)=some (p,c,j,h')∧Src c j∧OrdL n p:=by
 have main:∀(m k:Nat) (p:List Int) (i hh:Int),k+m=n→Src c i→OrdL k p→∃p' j h', ZL.l0 (n:Int) p (k:Int) c i hh=some (p', c,j,h')∧Src c j∧OrdL n p' := by
  intro m
  induction m with
  | zero =>
   intro k p i hh hk hs hp
   exact⟨p,i,hh,by rw[ZL.l0_eq,if_neg (by omega)],hs,by rw[←show k=n by omega];exact hp⟩
  | succ m ih =>
   intro k p i hh hk hs hp
   have pl:=hp.len
   obtain⟨x,j,h', e,s,x0,x1,_⟩:=Next_ hs hh ((k:Int)+1) (by omega)
   have x1:=x1 (by omega)
   have ho:=Own_ (p.take x.toNat) (by rw[List.length_take];omega)
   have hperm:((p.take x.toNat++[(k:Int)])++p.drop x.toNat).Perm ((k:Int) :: p):=by
    have:=(List.perm_middle (a:=(k:Int)) (l₁ := p.take x.toNat) (l₂ := p.drop x.toNat))
    rw[List.take_append_drop]at this
    simpa using this
   have hp' : OrdL (k+1) ((p.take x.toNat++[(k:Int)])++p.drop x.toNat):=by
    refine⟨by rw[hperm.length_eq,List.length_cons,pl],fun y hy => ?_,hperm.nodup_iff.2 (List.nodup_cons.2 ⟨fun q => ?_,hp.nd⟩)⟩
    ·
     rcases List.mem_cons.1 (hperm.mem_iff.1 hy)with rfl|q
     ·
      omega
     ·
      have:=hp.ent y q;omega
    ·
     have:=hp.ent _ q;omega
   obtain⟨p', j', h2,e2,s2,o2⟩:=ih (k+1) _ j h' (by omega) s hp'
   refine⟨p', j', h2,?_,s2,o2⟩
   have tl:(p.take x.toNat).length≤k:=by rw[List.length_take];omega
   have dl:(p.drop x.toNat).length≤k:=by rw[List.length_drop];omega
   have l1:([(k:Int)]:List Int).length=1:=rfl
   rw[ZL.l0_eq,if_pos (by omega),w64 (x:=(k:Int)+1) (by omega) (by omega),e]
   dsimp only[Option.bind_some]
   rw[if_pos x0,if_pos (by omega),ho]
   dsimp only[Option.bind_some]
   rw[if_pos (by rw[l1];omega),if_pos x0,if_pos (by omega),if_pos (by rw[List.length_append,l1];omega)]
   exact e2
 obtain⟨p,j,h', e,s,o⟩:=main n 0 [] i hh (by omega) h ⟨rfl,fun x hx=>(by cases hx),List.nodup_nil⟩
 exact⟨p,j,h', by rw[ZL.f_eq];exact e,s,o⟩
theorem Zie {c:List Int} {i:Int} (h:Src c i) (hh:Int) {n:Nat} (n1:1≤n) (hn:n≤100):∃p j h', Zx.f c i hh (n:Int)=some (p,c,j,h')∧Src c j∧OrdL n p∧rd p 0=0:=by
 obtain⟨p,j,h', e,s,o⟩:=Zk4 h hh (n:=n - 1) (by omega)
 have pl:=o.len
 have hw:wrapI ((n:Int) - 1)=((n - 1:Nat):Int):=by rw[w64 (by omega) (by omega)];omega
 have main:=up p.length (fun k=>Zx.l0 p (k:Int) c j h' (0 :: (p.take k).map (· + 1))) (fun k hk=>by
  have l1:(0 :: (p.take k).map (· + 1):List Int).length=k+1:=by rw[List.length_cons,List.length_map,List.length_take];omega
  have l2:∀x:Int,([x]:List Int).length=1:=fun _=>rfl
  obtain⟨a0,a1⟩:=o.ent _ (Zce (xs:=p) (i:=(k:Int)) (by omega) (by omega))
  rw[Zdf hk,List.map_append,List.map_singleton,←List.cons_append,Zx.l0_eq,w64 (x:=rd p (k:Int)+1) (by omega) (by omega),l1,l2,wn (j:=k) (by omega)]
  ((with_reducible repeat (first|refine ZP (by first|assumption|omega|rfl|exact B_pos (by omega)) ?_|refine ZO (by first|assumption|omega|decide|exact B_not (by omega)) ?_|refine Zq (by first|assumption) ?_|dsimp only));first|done|(with_reducible rfl)|simp (disch:=omega) only[w64]|(show False;done)))
 simp only[Int.natCast_zero,List.take_zero,List.map_nil,List.take_length]at main
 refine⟨0 :: p.map (· + 1),j,h', ?_,s,⟨by rw[List.length_cons,List.length_map];omega,fun x hx => ?_,List.nodup_cons.2 ⟨fun q => ?_,?_⟩⟩,rfl⟩
 ·
  rw[Zx.f_eq,hw,e]
  show Zx.l0 p 0 c j h' [0]=_
  rw[main,Zx.l0_eq,if_neg (by omega)]
 ·
  rcases List.mem_cons.1 hx with rfl|q
  ·
   omega
  ·
   obtain⟨y,hy,rfl⟩:=List.mem_map.1 q
   have:=o.ent y hy
   omega
 ·
  obtain⟨y,hy,q⟩:=List.mem_map.1 q
  have:=o.ent y hy
  omega
 ·
  rw[List.Nodup,List.pairwise_map]
  exact List.Pairwise.imp (fun {a b} h q=>h (by omega)) o.nd
end Go.Proofs.YthmcpmnhdbeahaaGreat.V
namespace Go.Proofs.YthmcpmnhdbeahaaGreat.V
open Go Go.RowKit Go.Proofs.YthmcpmnhdbeahaaGreat.D Go.Proofs.YthmcpmnhdbeahaaGreat.P
def setsL {α : Type} (p:List Int) (v:Nat → α):Nat→List α → List α
 | 0,r=>r
 | k+1,r=>(setsL p v k r).set (rd p (k:Int)).toNat (v k)
theorem ZcD {α : Type} (p:List Int) (v:Nat → α) (r:List α):∀k,(setsL p v k r).length=r.length
 | 0=>rfl
 | k+1=>by rw[setsL,List.length_set,ZcD p v r k]
theorem Ze4 {α : Type} {n:Nat} {p:List Int} (hp:Ordr n p) (v:Nat → α) {r:List α} (hr:r.length=n) {i:Nat} (hi:i < n):∀k,k≤n→(setsL p v k r)[(rd p (i:Int)).toNat]? = if i < k then some (v i)else r[(rd p (i:Int)).toNat]? := by
 intro k
 induction k with
 | zero=>intro _;rw[if_neg (by omega)];rfl
 | succ k ih =>
  intro hk
  have ih:=ih (by omega)
  obtain⟨a0,a1⟩:=hp.ent i hi
  obtain⟨b0,b1⟩:=hp.ent k (by omega)
  by_cases q:i=k
  ·
   subst q
   rw[if_pos (by omega),setsL,List.getElem?_set_self (by rw[ZcD];omega)]
  ·
   have hne:(rd p (k:Int)).toNat≠(rd p (i:Int)).toNat:=fun e=>q (hp.inj i k hi (by omega) (by omega))
   rw[setsL,List.getElem?_set_ne hne,ih]
   by_cases q2:i < k
   ·
    rw[if_pos q2,if_pos (by omega)]
   ·
    rw[if_neg q2,if_neg (by omega)]
theorem rd_get? {xs:List Int} {i:Nat} {x:Int} (h:xs[i]? = some x):rd xs (i:Int)=x:=by
 rw[Zlf,List.getD_eq_getElem?_getD,h];rfl
theorem row_get? {g:List (List Int)} {i:Nat} {r:List Int} (h:g[i]? = some r):row g (i:Int)=r:=by
 simp[row,List.getD_eq_getElem?_getD,h]
def renR (g:List (List Int)) (p:List Int) (a:Nat):List Int:=setsL p (fun b=>rd p (T g (a:Int) (b:Int))) g.length (row g (rd p (a:Int)))
def ren (g:List (List Int)) (p:List Int):List (List Int):=setsL p (renR g p) g.length g
theorem ZkT {g:List (List Int)} (hg:Grp g) {p:List Int} (hp:Ordr g.length p) (h0:rd p 0=0):Grp (ren g p):=by
 have hen:∀a:Nat,a < g.length→(row g (rd p (a:Int))).length=g.length:=fun a ha=>by
  obtain⟨a0,a1⟩:=hp.ent a ha
  have:=hg.row _ a0 a1
  omega
 have hrow:∀a:Nat,a < g.length→row (ren g p) (rd p (a:Int))=renR g p a:=fun a ha=>by
  obtain⟨a0,a1⟩:=hp.ent a ha
  have:=Ze4 hp (renR g p) (r:=g) rfl ha g.length (Nat.le_refl _)
  rw[if_pos ha]at this
  have:=row_get? this
  rwa[Int.toNat_of_nonneg a0]at this
 refine ZiJ hg hp h0 (ZcD ..) (fun a ha => ?_) fun a b ha hb => ?_
 ·
  obtain⟨i,hi,e⟩:=hp.onto (k:=(a:Int)) (by omega) (by omega)
  rw[←e,hrow i hi,renR,ZcD,hen i hi]
 ·
  obtain⟨b0,b1⟩:=hp.ent b hb
  have:=Ze4 hp (fun b=>rd p (T g (a:Int) (b:Int))) (hen a ha) hb g.length (Nat.le_refl _)
  rw[if_pos hb]at this
  have:=rd_get? this
  rw[Int.toNat_of_nonneg b0]at this
  show rd (row (ren g p) _) _=_
  rw[hrow a ha]
  exact this
theorem Copy_ (g:List (List Int)) (hl:g.length≤1000000) (hr:∀r∈g,r.length≤1048576):Zat.f g=some g:=by
 have l1:∀x:List Int,([x]:List (List Int)).length=1:=fun _=>rfl
 have main:=up g.length (fun k=>Zat.l0 (k:Int) g (g.take k)) (fun k hk=>by
  have ho:=Own_ (row g (k:Int)) (hr _ (Zjb (by omega) (by omega)))
  have hlen:(g.take k).length=k:=by rw[List.length_take];omega
  have ht:g.take (k+1)=g.take k++[row g (k:Int)]:=by rw[List.take_succ_eq_append_getElem hk,Ze2 hk]
  rw[ht,Zat.l0_eq,ho,Option.bind_some,hlen,l1,wn (j:=k) (by omega)]
  ((with_reducible repeat (first|refine ZP (by first|assumption|omega|rfl|exact B_pos (by omega)) ?_|refine ZO (by first|assumption|omega|decide|exact B_not (by omega)) ?_|refine Zq (by first|assumption) ?_|dsimp only));first|done|(with_reducible rfl)|simp (disch:=omega) only[w64]|(show False;done)))
 simp only[Int.natCast_zero,List.take_zero,List.take_length]at main
 rw[Zat.f_eq,main,Zat.l0_eq,if_neg (by omega)]
theorem ZeJ {g:List (List Int)} (hg:Grp g):∀r∈g,r.length≤8:=fun r hr=>by
 obtain⟨i,i0,i1,rfl⟩:=Zg0 hr
 have:=hg.row i i0 i1
 have:=hg.n8
 omega
theorem ZgM {g:List (List Int)} (hg:Grp g) {p:List Int} (hp:Ordr g.length p):Zi.f g p=some (ren g p):=by
 have n8:=hg.n8
 have pl:=hp.len
 have hc:=Copy_ g (by omega) (fun r hr=>by have:=ZeJ hg r hr;omega)
 have main:=up g.length (fun a=>Zi.l0 p (a:Int) g (setsL p (renR g p) a g)) (fun a ha=>by
  obtain⟨pa0,pa1⟩:=hp.ent a ha
  have gl:(setsL p (renR g p) a g).length=g.length:=ZcD ..
  have hrow:row (setsL p (renR g p) a g) (rd p (a:Int))=row g (rd p (a:Int)):=by
   have h1:=Ze4 hp (renR g p) (r:=g) rfl ha a (by omega)
   rw[if_neg (by omega)]at h1
   obtain⟨q,hq⟩:=Int.eq_ofNat_of_zero_le pa0
   rw[hq]at h1 ⊢
   have hq' : q < g.length:=by omega
   rw[Int.toNat_natCast,List.getElem?_eq_getElem hq']at h1
   rw[row_get? h1,Ze2 hq']
  have rl:=hg.row _ pa0 (by omega)
  have ra:=hg.row (a:Int) (by omega) (by omega)
  have inner:=up g.length (fun b=>Zi.l1 p (a:Int) (b:Int) g (setsL p (fun b=>rd p (T g (a:Int) (b:Int))) b (row g (rd p (a:Int)))) (setsL p (renR g p) a g) (rd p (a:Int))) (fun b hb=>by
   obtain⟨pb0,pb1⟩:=hp.ent b hb
   obtain⟨t0,t1⟩:=hg.ent (a:Int) (b:Int) (by omega) (by omega) (by omega) (by omega)
   have sl:(setsL p (fun b=>rd p (T g (a:Int) (b:Int))) b (row g (rd p (a:Int)))).length=(row g (rd p (a:Int))).length:=ZcD ..
   show Zi.l1 p (a:Int) (b:Int) g _ _ _=Zi.l1 p (a:Int) ((b+1:Nat):Int) g ((setsL p (fun b=>rd p (T g (a:Int) (b:Int))) b (row g (rd p (a:Int)))).set (rd p (b:Int)).toNat (rd p (T g (a:Int) (b:Int)))) _ _
   rw[Zi.l1_eq,Zay.f_eq,Option.bind_some,sl,wn (j:=b) (by omega)]
   ((with_reducible repeat (first|refine ZP (by first|assumption|omega|rfl|exact B_pos (by omega)) ?_|refine ZO (by first|assumption|omega|decide|exact B_not (by omega)) ?_|refine Zq (by first|assumption) ?_|dsimp only));first|done|(with_reducible rfl)|simp (disch:=omega) only[w64]|(show False;done)))
  simp only[Int.natCast_zero,setsL]at inner
  rw[Zi.l0_eq,Zay.f_eq,Option.bind_some,gl,hrow,inner,Zi.l1_eq,Zay.f_eq,Option.bind_some,wn (j:=a) (by omega)]
  (with_reducible repeat (first|refine ZP (by first|assumption|omega|rfl|exact B_pos (by omega)) ?_|refine ZO (by first|assumption|omega|decide|exact B_not (by omega)) ?_|refine Zq (by first|assumption) ?_|dsimp only))
  rfl)
 simp only[Int.natCast_zero,setsL]at main
 rw[Zi.f_eq,hc,Option.bind_some,main,Zi.l0_eq,Zay.f_eq,Option.bind_some,if_neg (by omega)]
 rfl
theorem bld {α : Type} (f:Nat → α) (k:Nat):(List.range (k+1)).map f=(List.range k).map f++[f k]:=by rw[List.range_succ,List.map_append,List.map_singleton]
theorem Zfv {n:Nat} (n1:1≤n) (n8:n≤8):ZA.f (n:Int)=some (cyc n):=by
 have l1:∀x:Int,([x]:List Int).length=1:=fun _=>rfl
 have l2:∀x:List Int,([x]:List (List Int)).length=1:=fun _=>rfl
 have main:=up n (fun a=>ZA.l0 (n:Int) (a:Int) ((List.range a).map fun a:Nat=>(List.range n).map fun b:Nat=>((a:Int)+(b:Int))%(n:Int))) (fun a ha=>by
  have inner:=up n (fun b=>ZA.l1 (n:Int) (a:Int) (b:Int) ((List.range b).map fun b:Nat=>((a:Int)+(b:Int))%(n:Int)) ((List.range a).map fun a:Nat=>(List.range n).map fun b:Nat=>((a:Int)+(b:Int))%(n:Int))) (fun b hb=>by
   have e:((List.range b).map fun b:Nat=>((a:Int)+(b:Int))%(n:Int)).length=b:=by simp
   rw[bld,ZA.l1_eq,e,l1,w64 (x:=(a:Int)+(b:Int)) (by omega) (by omega),Zbz (show 0≤(a:Int)+(b:Int)by omega),wn (j:=b) (by omega)]
   ((with_reducible repeat (first|refine ZP (by first|assumption|omega|rfl|exact B_pos (by omega)) ?_|refine ZO (by first|assumption|omega|decide|exact B_not (by omega)) ?_|refine Zq (by first|assumption) ?_|dsimp only));first|done|(with_reducible rfl)|simp (disch:=omega) only[w64]|(show False;done)))
  simp only[Int.natCast_zero,List.range_zero,List.map_nil]at inner
  have e:((List.range a).map fun a:Nat=>(List.range n).map fun b:Nat=>((a:Int)+(b:Int))%(n:Int)).length=a:=by simp
  rw[bld,ZA.l0_eq,if_pos (by omega),inner,ZA.l1_eq,e,l2,wn (j:=a) (by omega)]
  ((with_reducible repeat (first|refine ZP (by first|assumption|omega|rfl|exact B_pos (by omega)) ?_|refine ZO (by first|assumption|omega|decide|exact B_not (by omega)) ?_|refine Zq (by first|assumption) ?_|dsimp only));first|done|(with_reducible rfl)|simp (disch:=omega) only[w64]|(show False;done)))
 simp only[Int.natCast_zero,List.range_zero,List.map_nil]at main
 rw[ZA.f_eq,main,ZA.l0_eq,if_neg (by omega)]
 rfl
theorem Zfx {g h:List (List Int)} (hg:Grp g) (hh:Grp h):Zv.f g h=some (prd g h):=by
 have l1:∀x:Int,([x]:List Int).length=1:=fun _=>rfl
 have l2:∀x:List Int,([x]:List (List Int)).length=1:=fun _=>rfl
 have g8:=hg.n8;have h8:=hh.n8;have h1:=hh.n1
 obtain⟨N,hN⟩:∃N,N=g.length*h.length:=⟨_,rfl⟩
 have N64:N≤64:=by rw[hN];exact Nat.mul_le_mul g8 h8
 have hw:wrapI ((g.length:Int)*(h.length:Int))=(N:Int):=by rw[hN,Int.natCast_mul,w64] <;> rw[←Int.natCast_mul,←hN] <;> omega
 have parts:∀x:Nat,x < N→(0≤(x:Int) / (h.length:Int)∧(x:Int) / (h.length:Int) < g.length)∧0≤(x:Int)%(h.length:Int)∧(x:Int)%(h.length:Int) < h.length∧wrapI ((x:Int).tdiv (h.length:Int))=(x:Int) / (h.length:Int)∧(x:Int).tmod (h.length:Int)=(x:Int)%(h.length:Int):=fun x hx=>by
  have e1:(x:Int) / (h.length:Int) < g.length:=Int.ediv_lt_of_lt_mul (by omega) (by rw[←Int.natCast_mul,←hN];omega)
  have e0:0≤(x:Int) / (h.length:Int):=Int.ediv_nonneg (by omega) (by omega)
  exact⟨⟨e0,e1⟩,Int.emod_nonneg _ (by omega),Int.emod_lt_of_pos _ (by omega),by rw[Zeb (by omega),w64 (by omega) (by omega)],Zbz (by omega)⟩
 have main:=up N (fun a=>Zv.l0 (h.length:Int) (a:Int) g h ((List.range a).map fun x:Nat=>(List.range N).map fun y:Nat=>(h.length:Int)*T g ((x:Int) / (h.length:Int)) ((y:Int) / (h.length:Int))+T h ((x:Int)%(h.length:Int)) ((y:Int)%(h.length:Int)))) (fun a ha=>by
  obtain⟨⟨a0,a1⟩,a2,a3,a4,a5⟩:=parts a ha
  have ra:=hg.row _ a0 a1
  have rb:=hh.row _ a2 a3
  have inner:=up N (fun b=>Zv.l1 (h.length:Int) (a:Int) (b:Int) g h ((List.range b).map fun y:Nat=>(h.length:Int)*T g ((a:Int) / (h.length:Int)) ((y:Int) / (h.length:Int))+T h ((a:Int)%(h.length:Int)) ((y:Int)%(h.length:Int))) ((List.range a).map fun x:Nat=>(List.range N).map fun y:Nat=>(h.length:Int)*T g ((x:Int) / (h.length:Int)) ((y:Int) / (h.length:Int))+T h ((x:Int)%(h.length:Int)) ((y:Int)%(h.length:Int)))) (fun b hb=>by
   obtain⟨⟨b0,b1⟩,b2,b3,b4,b5⟩:=parts b hb
   obtain⟨t0,t1⟩:=hg.ent _ _ a0 a1 b0 b1
   obtain⟨s0,s1⟩:=hh.ent _ _ a2 a3 b2 b3
   have e:((List.range b).map fun y:Nat=>(h.length:Int)*T g ((a:Int) / (h.length:Int)) ((y:Int) / (h.length:Int))+T h ((a:Int)%(h.length:Int)) ((y:Int)%(h.length:Int))).length=b:=by simp
   have p0:0≤(h.length:Int)*T g ((a:Int) / (h.length:Int)) ((b:Int) / (h.length:Int)):=Int.mul_nonneg (by omega) t0
   have p1:(h.length:Int)*T g ((a:Int) / (h.length:Int)) ((b:Int) / (h.length:Int))≤8*8:=Int.mul_le_mul (by omega) (by omega) t0 (by omega)
   rw[bld,Zv.l1_eq,Zay.f_eq,Option.bind_some,hw,e,l1,a4,a5,b4,b5,wn (j:=b) (by omega),w64 (x:=(h.length:Int)*T g ((a:Int) / (h.length:Int)) ((b:Int) / (h.length:Int))) (by omega) (by omega),w64 (x:=(h.length:Int)*T g ((a:Int) / (h.length:Int)) ((b:Int) / (h.length:Int))+T h ((a:Int)%(h.length:Int)) ((b:Int)%(h.length:Int))) (by omega) (by omega)]
   clear a4 b4 a5 b5 hw
   ((with_reducible repeat (first|refine ZP (by first|assumption|omega|rfl|exact B_pos (by omega)) ?_|refine ZO (by first|assumption|omega|decide|exact B_not (by omega)) ?_|refine Zq (by first|assumption) ?_|dsimp only));first|done|(with_reducible rfl)|simp (disch:=omega) only[w64]|(show False;done)))
  simp only[Int.natCast_zero,List.range_zero,List.map_nil]at inner
  have e:((List.range a).map fun x:Nat=>(List.range N).map fun y:Nat=>(h.length:Int)*T g ((x:Int) / (h.length:Int)) ((y:Int) / (h.length:Int))+T h ((x:Int)%(h.length:Int)) ((y:Int)%(h.length:Int))).length=a:=by simp
  rw[bld,Zv.l0_eq,Zay.f_eq,Option.bind_some,hw,if_pos (by omega),inner,Zv.l1_eq,Zay.f_eq,Option.bind_some,hw,e,l2,wn (j:=a) (by omega)]
  clear a4 a5 hw
  ((with_reducible repeat (first|refine ZP (by first|assumption|omega|rfl|exact B_pos (by omega)) ?_|refine ZO (by first|assumption|omega|decide|exact B_not (by omega)) ?_|refine Zq (by first|assumption) ?_|dsimp only));first|done|(with_reducible rfl)|simp (disch:=omega) only[w64]|(show False;done)))
 simp only[Int.natCast_zero,List.range_zero,List.map_nil]at main
 rw[Zv.f_eq,Zay.f_eq,Option.bind_some,main,Zv.l0_eq,Zay.f_eq,Option.bind_some,hw,if_neg (by omega),hN]
 rfl
theorem Zfy {n:Nat} (n1:1≤n) (n8:n≤8) {more:Int} (m0:0≤more) (m8:more≤8):Zo.f (n:Int) more=some (twd n more):=by
 have l1:∀x:Int,([x]:List Int).length=1:=fun _=>rfl
 have l2:∀x:List Int,([x]:List (List Int)).length=1:=fun _=>rfl
 have hw:wrapI (2*(n:Int))=((2*n:Nat):Int):=by rw[w64 (by omega) (by omega)];omega
 obtain⟨F,hF⟩:∃F:Nat→Nat→Int,F=fun(a b:Nat)=>(n:Int)*(((a:Int) / n+(b:Int) / n)%2)+((if(b:Int) / n=1 then(b:Int)%n - (a:Int)%n else(a:Int)%n+(b:Int)%n)+more*((a:Int) / n)*((b:Int) / n))%(n:Int):=⟨_,rfl⟩
 have parts:∀x:Nat,x < 2*n→(0≤(x:Int) / (n:Int)∧(x:Int) / (n:Int)≤1)∧0≤(x:Int)%(n:Int)∧(x:Int)%(n:Int) < n∧wrapI ((x:Int).tdiv (n:Int))=(x:Int) / (n:Int)∧(x:Int).tmod (n:Int)=(x:Int)%(n:Int):=fun x hx=>by
  have e1:(x:Int) / (n:Int) < 2:=Int.ediv_lt_of_lt_mul (by omega) (by omega)
  have e0:0≤(x:Int) / (n:Int):=Int.ediv_nonneg (by omega) (by omega)
  exact⟨⟨e0,by omega⟩,Int.emod_nonneg _ (by omega),Int.emod_lt_of_pos _ (by omega),by rw[Zeb (by omega),w64 (by omega) (by omega)],Zbz (by omega)⟩
 have cell:∀(a b:Nat),a < 2*n→b < 2*n→∀(r2:List Int) (r3:List (List Int)),r2.length=b→Zo.l1 (n:Int) more (a:Int) (b:Int) r2 r3=Zo.l1 (n:Int) more (a:Int) ((b+1:Nat):Int) (r2++[F a b]) r3:=fun a b ha hb r2 r3 hr=>by
  obtain⟨⟨a0,a1⟩,a2,a3,a4,a5⟩:=parts a ha
  obtain⟨⟨b0,b1⟩,b2,b3,b4,b5⟩:=parts b hb
  have hFab:F a b=(n:Int)*(((a:Int) / n+(b:Int) / n)%2)+((if(b:Int) / n=1 then(b:Int)%n - (a:Int)%n else(a:Int)%n+(b:Int)%n)+more*((a:Int) / n)*((b:Int) / n))%(n:Int):=by rw[hF]
  rw[hFab,Zo.l1_eq,hw,a4,b4,a5,b5,hr,wn (j:=b) (by omega)]
  clear a4 b4 a5 b5 hw hFab
  generalize (a:Int) / (n:Int)=A at *
  generalize (b:Int) / (n:Int)=B at *
  generalize (a:Int)%(n:Int)=y at *
  generalize (b:Int)%(n:Int)=w at *
  have p0:0≤more*A:=Int.mul_nonneg m0 a0
  have p1:more*A≤8*1:=Int.mul_le_mul m8 a1 a0 (by omega)
  have q0:0≤more*A*B:=Int.mul_nonneg p0 b0
  have q1:more*A*B≤8*1:=Int.mul_le_mul (by omega) b1 b0 (by omega)
  have r0:=Int.emod_nonneg (A+B) (show(2:Int)≠0 by omega)
  have r1:=Int.emod_lt_of_pos (A+B) (show(0:Int) < 2 by omega)
  have s0:0≤(n:Int)*((A+B)%2):=Int.mul_nonneg (by omega) r0
  have s1:(n:Int)*((A+B)%2)≤8*1:=Int.mul_le_mul (by omega) (by omega) r0 (by omega)
  rw[w64 (x:=more*A) (by omega) (by omega),w64 (x:=more*A*B) (by omega) (by omega),w64 (x:=A+B) (by omega) (by omega),Zbz (show 0≤A+B by omega),w64 (x:=(n:Int)*((A+B)%2)) (by omega) (by omega),w64 (x:=w - y) (by omega) (by omega),w64 (x:=y+w) (by omega) (by omega),w64 (x:=w - y+more*A*B) (by omega) (by omega),w64 (x:=y+w+more*A*B) (by omega) (by omega)]
  have hn:¬ (n:Int)=0:=by omega
  rw[if_pos (by omega),if_neg hn,if_neg hn,if_neg hn,if_neg hn]
  by_cases hB:B=1
  ·
   have u0:=Int.emod_nonneg (w - y+more*A*B) hn
   have u1:=Int.emod_lt_of_pos (w - y+more*A*B) (show(0:Int) < n by omega)
   rw[if_pos hB,if_pos hB,Mod_ (by omega) (by omega) (by omega) (by omega),Option.bind_some,if_pos (by rw[l1];omega),w64 (x:=(n:Int)*((A+B)%2)+(w - y+more*A*B)%(n:Int)) (by omega) (by omega)]
  ·
   have u0:=Int.emod_nonneg (y+w+more*A*B) hn
   have u1:=Int.emod_lt_of_pos (y+w+more*A*B) (show(0:Int) < n by omega)
   rw[if_neg hB,if_neg hB,Mod_ (by omega) (by omega) (by omega) (by omega),Option.bind_some,if_pos (by rw[l1];omega),w64 (x:=(n:Int)*((A+B)%2)+(y+w+more*A*B)%(n:Int)) (by omega) (by omega)]
 have main:=up (2*n) (fun a=>Zo.l0 (n:Int) more (a:Int) ((List.range a).map fun a:Nat=>(List.range (2*n)).map fun b:Nat=>F a b)) (fun a ha=>by
  have inner:=up (2*n) (fun b=>Zo.l1 (n:Int) more (a:Int) (b:Int) ((List.range b).map fun b:Nat=>F a b) ((List.range a).map fun a:Nat=>(List.range (2*n)).map fun b:Nat=>F a b)) (fun b hb=>by
   rw[bld]
   exact cell a b ha hb _ _ (by simp))
  simp only[Int.natCast_zero,List.range_zero,List.map_nil]at inner
  have e:((List.range a).map fun a:Nat=>(List.range (2*n)).map fun b:Nat=>F a b).length=a:=by simp
  rw[bld,Zo.l0_eq,hw,if_pos (by omega),inner,Zo.l1_eq,hw,e,l2,wn (j:=a) (by omega),if_neg (by omega),if_pos (by omega)])
 simp only[Int.natCast_zero,List.range_zero,List.map_nil]at main
 rw[Zo.f_eq,main,Zo.l0_eq,hw,if_neg (by omega),hF]
 rfl
theorem wrB {x:Int} (h0:0≤x) (h1:x < 256):wr .u8 x=x:=by
 show hid _=_
 rw[Zcn]
 simp[IntKind.wrap,IntKind.bits,IntKind.signed]
 omega
theorem Zkw {d:Nat} (d1:1≤d) (d8:d≤8) {s:ByteArray} (h1:¬ s=⟨#[107,108,101,105,110]⟩) (h2:¬ s=⟨#[99,117,98,101]⟩) (h3:¬ s=⟨#[99,50,99,52]⟩) (h4:¬ s=⟨#[115,51]⟩) (h5:¬ s=⟨#[100,105,104,101,100,114,97,108]⟩) (h6:¬ s=⟨#[113,117,97,116,101,114,110,105,111,110]⟩) (hs:s.size=2) (b0:Zdn s 0=99) (b1:Zdn s 1=48+(d:Int)):Zaj.f s=some (cyc d,true):=by
 have c2:=Zfv (n:=2) (by omega) (by omega)
 have c2:ZA.f 2=some (cyc 2):=c2
 have cd:=Zfv (n:=d) d1 d8
 rw[Zaj.f_eq,c2,Option.bind_some,if_neg h1,if_neg h2,if_neg h3,if_neg h4,if_neg h5,if_neg h6,b0,b1,if_pos (by omega),if_pos (by omega),if_pos rfl,if_pos (by omega),if_pos (by omega),if_pos (by omega),if_pos (by omega),if_pos (by omega),wrB (by omega) (by omega),w64 (by omega) (by omega),show 48+(d:Int) - 48=(d:Int)by omega,cd,Option.bind_some]
def nmL:List ByteArray:=[⟨#[99,49]⟩,⟨#[99,50]⟩,⟨#[99,51]⟩,⟨#[99,52]⟩,⟨#[99,53]⟩,⟨#[99,54]⟩,⟨#[99,55]⟩,⟨#[99,56]⟩,⟨#[107,108,101,105,110]⟩,⟨#[115,51]⟩,⟨#[99,50,99,52]⟩,⟨#[99,117,98,101]⟩,⟨#[100,105,104,101,100,114,97,108]⟩,⟨#[113,117,97,116,101,114,110,105,111,110]⟩]
theorem Zk3 {i:Int} (i0:0≤i) (i1:i < 14):∃G,Zaj.f (Ty.rd .str nmL i)=some (G,true)∧Grp G:=by
 have c2:=Zfv (n:=2) (by omega) (by omega)
 have c2:ZA.f 2=some (cyc 2):=c2
 have c4:=Zfv (n:=4) (by omega) (by omega)
 have c4:ZA.f 4=some (cyc 4):=c4
 have t3:Zo.f 3 0=some (twd 3 0):=Zfy (n:=3) (by omega) (by omega) (by omega) (by omega)
 have t4:Zo.f 4 0=some (twd 4 0):=Zfy (n:=4) (by omega) (by omega) (by omega) (by omega)
 have t5:Zo.f 4 2=some (twd 4 2):=Zfy (n:=4) (by omega) (by omega) (by omega) (by omega)
 obtain⟨g1,g2,g3,g4,g5,g6⟩:=ZiS
 have g2' := ZcL (ZgR 2 (by omega) (by omega))
 have g4' := ZcL (ZgR 4 (by omega) (by omega))
 have g22:=ZcL g1
 have p1:=Zfx g2' g2'
 have p2:=Zfx g2' g22
 have p3:=Zfx g2' g4'
 have cyc' : ∀d:Nat,1≤d→d≤8→Ty.rd .str nmL ((d:Int) - 1)=⟨#[99,UInt8.ofNat (48+d)]⟩→∃G,Zaj.f (Ty.rd .str nmL ((d:Int) - 1))=some (G,true)∧Grp G:=fun d d1 d8 e=>by
  rw[e]
  refine⟨cyc d,?_,ZcL (ZgR d d8 d1)⟩
  have hd:d=1∨d=2∨d=3∨d=4∨d=5∨d=6∨d=7∨d=8:=by omega
  rcases hd with rfl|rfl|rfl|rfl|rfl|rfl|rfl|rfl <;> exact Zkw (by omega) (by omega) (by decide) (by decide) (by decide) (by decide) (by decide) (by decide) rfl rfl rfl
 have hi:i=0∨i=1∨i=2∨i=3∨i=4∨i=5∨i=6∨i=7∨i=8∨i=9∨i=10∨i=11∨i=12∨i=13:=by omega
 rcases hi with rfl|rfl|rfl|rfl|rfl|rfl|rfl|rfl|rfl|rfl|rfl|rfl|rfl|rfl
 ·
  exact cyc' 1 (by omega) (by omega) rfl
 ·
  exact cyc' 2 (by omega) (by omega) rfl
 ·
  exact cyc' 3 (by omega) (by omega) rfl
 ·
  exact cyc' 4 (by omega) (by omega) rfl
 ·
  exact cyc' 5 (by omega) (by omega) rfl
 ·
  exact cyc' 6 (by omega) (by omega) rfl
 ·
  exact cyc' 7 (by omega) (by omega) rfl
 ·
  exact cyc' 8 (by omega) (by omega) rfl
 ·
  refine⟨_,?_,g22⟩
  show Zaj.f ⟨#[107,108,101,105,110]⟩=_
  rw[Zaj.f_eq,c2,Option.bind_some,if_pos rfl,p1,Option.bind_some]
 ·
  refine⟨_,?_,ZcL g4⟩
  show Zaj.f ⟨#[115,51]⟩=_
  rw[Zaj.f_eq,c2,Option.bind_some,if_neg (by decide),if_neg (by decide),if_neg (by decide),if_pos rfl,t3,Option.bind_some]
 ·
  refine⟨_,?_,ZcL g3⟩
  show Zaj.f ⟨#[99,50,99,52]⟩=_
  rw[Zaj.f_eq,c2,Option.bind_some,if_neg (by decide),if_neg (by decide),if_pos rfl,c4,Option.bind_some,p3,Option.bind_some]
 ·
  refine⟨_,?_,ZcL g2⟩
  show Zaj.f ⟨#[99,117,98,101]⟩=_
  rw[Zaj.f_eq,c2,Option.bind_some,if_neg (by decide),if_pos rfl,p1,Option.bind_some,p2,Option.bind_some]
 ·
  refine⟨_,?_,ZcL g5⟩
  show Zaj.f ⟨#[100,105,104,101,100,114,97,108]⟩=_
  rw[Zaj.f_eq,c2,Option.bind_some,if_neg (by decide),if_neg (by decide),if_neg (by decide),if_neg (by decide),if_pos rfl,t4,Option.bind_some]
 ·
  refine⟨_,?_,ZcL g6⟩
  show Zaj.f ⟨#[113,117,97,116,101,114,110,105,111,110]⟩=_
  rw[Zaj.f_eq,c2,Option.bind_some,if_neg (by decide),if_neg (by decide),if_neg (by decide),if_neg (by decide),if_neg (by decide),if_pos rfl,t5,Option.bind_some]
theorem Draw_ {c:List Int} {i:Int} (h:Src c i) (hh:Int):∃G j h', Za7.f c i hh=some (G,c,j,h')∧Src c j∧Grp G:=by
 obtain⟨x,j,h', e,s,x0,x1,_⟩:=Next_ h hh 14 (by omega)
 have x1:=x1 (by omega)
 obtain⟨G,hG,hgr⟩:=Zk3 x0 x1
 obtain⟨y,j2,h2,e2,s2,y0,y1,_⟩:=Next_ s h' 2 (by omega)
 have hN:Za2.f=some nmL:=Za2.f_eq
 have hl:((nmL.length:Nat):Int)=14:=rfl
 by_cases q:y=0
 ·
  refine⟨G,j2,h2,?_,s2,hgr⟩
  rw[Za7.f_eq,hN,Option.bind_some,hl,e]
  dsimp only[Option.bind_some]
  rw[if_pos x0,if_pos x1,if_pos x0,if_pos x1,hG]
  dsimp only[Option.bind_some]
  rw[e2]
  dsimp only[Option.bind_some]
  rw[if_pos q]
 ·
  obtain⟨p,j3,h3,e3,s3,o,p0⟩:=Zie s2 h2 (n:=G.length) hgr.n1 (by have:=hgr.n8;omega)
  have hr:=ZgM hgr o.ordr
  refine⟨ren G p,j3,h3,?_,s3,ZkT hgr o.ordr p0⟩
  rw[Za7.f_eq,hN,Option.bind_some,hl,e]
  dsimp only[Option.bind_some]
  rw[if_pos x0,if_pos x1,if_pos x0,if_pos x1,hG]
  dsimp only[Option.bind_some]
  rw[e2]
  dsimp only[Option.bind_some]
  rw[if_neg q,Zay.f_eq,Option.bind_some,e3]
  dsimp only[Option.bind_some]
  rw[hr]
  rfl
end Go.Proofs.YthmcpmnhdbeahaaGreat.V
namespace Go.Proofs.YthmcpmnhdbeahaaGreat.V
open Go Go.RowKit Go.Proofs.YthmcpmnhdbeahaaGreat.D Go.Proofs.YthmcpmnhdbeahaaGreat.P
def GoP (g:List (List Int)) (m:Int) (us:List Int):Prop:=∀x:Int,0≤x→x < us.length→∀y:Int,0≤y→y < us.length→T g x y < us.length→rd us (T g x y)=rd us x*rd us y%m
theorem Zkt {g:List (List Int)} (hg:Grp g) {m:Int} (m2:2≤m) (m12:m≤12) (k:Nat) {us:List Int} (hu:∀x∈us,1≤x∧x < m∧Int.gcd x m=1) (hl:us.length≤g.length) (out:List (Int×List Int)) :
  Zs.l0 k m us (us.length:Int) 0 out g=ite_ (GoP g m us) (Zs.l0 k m us (us.length:Int) (us.length:Int) out g) (some out):=by
 have n8:=hg.n8
 have outer:=scan us.length (fun x=>Zs.l0 k m us (us.length:Int) x out g) (fun x=>∀y:Int,0≤y→y < us.length→T g x y < us.length→rd us (T g x y)=rd us x*rd us y%m) (some out) (fun x x0 x1 _=>by
  have rx:=hg.row x x0 (by omega)
  have inner:=scanI us.length (fun y=>Zs.l1 k m us (us.length:Int) x y out g) (fun y=>T g x y < us.length→rd us (T g x y)=rd us x*rd us y%m) (some out) (Zs.l0 k m us (us.length:Int) (x+1) out g) (fun y y0 y1 _=>by
   obtain⟨t0,t1⟩:=hg.ent x y x0 (by omega) y0 (by omega)
   obtain⟨a0,a1,_⟩:=hu _ (Zce x0 x1)
   obtain⟨b0,b1,_⟩:=hu _ (Zce y0 y1)
   obtain⟨p0,p1⟩:=ZbE (a:=rd us x) (b:=rd us y) (m:=1000) (by omega) (by omega) (by omega) (by omega) (by omega)
   refine⟨fun h => ?_,fun h => ?_⟩
   ·
    by_cases ht:T g x y < us.length
    ·
     have h:=h ht
     rw[Zs.l1_eq,w64 (x:=y+1) (by omega) (by omega),w64 (x:=rd us x*rd us y) (by omega) (by omega),Zbz p0]
     (with_reducible repeat (first|refine ZP (by first|assumption|omega|rfl|exact B_pos (by omega)) ?_|refine ZO (by first|assumption|omega|decide|exact B_not (by omega)) ?_|refine Zq (by first|assumption) ?_|dsimp only))
    ·
     rw[Zs.l1_eq,w64 (x:=y+1) (by omega) (by omega)]
     (with_reducible repeat (first|refine ZP (by first|assumption|omega|rfl|exact B_pos (by omega)) ?_|refine ZO (by first|assumption|omega|decide|exact B_not (by omega)) ?_|refine Zq (by first|assumption) ?_|dsimp only))
   ·
    have ht:T g x y < us.length:=by
     by_cases q:T g x y < us.length
     ·
      exact q
     ·
      exact absurd (fun k=>absurd k q) h
    have h:¬ rd us (T g x y)=rd us x*rd us y%m:=fun k=>h fun _=>k
    rw[Zs.l1_eq,w64 (x:=rd us x*rd us y) (by omega) (by omega),Zbz p0]
    (with_reducible repeat (first|refine ZP (by first|assumption|omega|rfl|exact B_pos (by omega)) ?_|refine ZO (by first|assumption|omega|decide|exact B_not (by omega)) ?_|refine Zq (by first|assumption) ?_|dsimp only))) (fun _=>by
     rw[Zs.l1_eq,w64 (x:=x+1) (by omega) (by omega)]
     (with_reducible repeat (first|refine ZP (by first|assumption|omega|rfl|exact B_pos (by omega)) ?_|refine ZO (by first|assumption|omega|decide|exact B_not (by omega)) ?_|refine Zq (by first|assumption) ?_|dsimp only)))
  refine⟨fun h => ?_,fun h => ?_⟩ <;> rw[Zs.l0_eq,if_pos (by omega)]
  ·
   exact inner.1 h
  ·
   exact inner.2 h)
 rcases outer with ⟨h1,h2⟩|⟨j,j0,j1,_,h1,_,h2⟩
 ·
  rw[ZbG (show GoP g m us from h1),h2]
 ·
  rw[ZbB (show ¬ GoP g m us from fun q=>h1 (q j j0 j1))]
  exact h2
theorem pow12 {a b:Nat} (h:a=b+1):(12:Nat) ^ a=12*12 ^ b:=by rw[h,Nat.pow_succ,Nat.mul_comm]
theorem Zkv {g:List (List Int)} (hg:Grp g) {m:Int} (m2:2≤m) (m12:m≤12):∀(k:Nat) (us:List Int) (out:List (Int×List Int)),(∀x∈us,1≤x∧x < m∧Int.gcd x m=1)→us.length≤g.length→g.length < us.length+k→out.length+12 ^ (g.length - us.length)≤1000000000 →
  ∃O,Zs.f k g m us out=some (out++O)∧(∀p∈O,p.1=m∧Mdl g m p.2)∧O.length≤12 ^ (g.length - us.length)∧((∀x∈us,x=1)→O≠[]):=by
 have n8:=hg.n8
 intro k
 induction k with
 | zero=>intro us out _ hl hk _;omega
 | succ k ih =>
  intro us out hu hl hk hb
  have ht:=Zkt hg m2 m12 k hu hl out
  rw[Zs.f_eq,ht]
  by_cases hG:GoP g m us
  rotate_left
  ·
   rw[ZbB hG]
   refine⟨[],by rw[List.append_nil],by simp,Nat.zero_le _,fun h=>absurd (fun x x0 x1 y y0 y1 ht => ?_) hG⟩
   obtain⟨t0,_⟩:=hg.ent x y x0 (by omega) y0 (by omega)
   rw[h _ (Zce x0 x1),h _ (Zce y0 y1),h _ (Zce t0 ht),Int.mul_one,Int.emod_eq_of_lt (by omega) (by omega)]
  rw[ZbG hG,Zs.l0_eq,if_neg (by omega)]
  by_cases hN:(us.length:Int)=(g.length:Int)
  ·
   rw[if_pos hN,Own_ us (by omega),Option.bind_some]
   have l1:([(m,us)]:List (Int×List Int)).length=1:=rfl
   have hp1:1≤12 ^ (g.length - us.length):=Nat.one_le_pow _ _ (by omega)
   rw[l1,if_pos (by omega)]
   refine⟨[(m,us)],rfl,fun p hp => ?_,by rw[l1];exact hp1,fun _=>by simp⟩
   rw[List.mem_singleton]at hp
   subst hp
   refine⟨rfl,m2,m12,by show us.length=_;omega,fun i i0 i1=>hu _ (Zce i0 i1),fun i i0 i1 j j0 j1 => ?_⟩
   have i1:i < us.length:=i1
   have j1:j < us.length:=j1
   exact hG i i0 i1 j j0 j1 (by rw[hN];exact(hg.ent i j i0 (by omega) j0 (by omega)).2)
  rw[if_neg hN]
  have hp12:=pow12 (show g.length - us.length=(g.length - (us.length+1))+1 by omega)
  obtain⟨P,hP⟩:∃P,P=(12:Nat) ^ (g.length - (us.length+1)):=⟨_,rfl⟩
  rw[←hP]at hp12
  have loop:∀(n:Nat) (c:Int) (out:List (Int×List Int)),1≤c→c+n=m→out.length+n*P≤1000000000 →
    ∃O,Zs.l2 k m us (us.length:Int) c out g=some (out++O)∧(∀p∈O,p.1=m∧Mdl g m p.2)∧O.length≤n*P∧(c=1→(∀x∈us,x=1)→O≠[]):=by
   intro n
   induction n with
   | zero =>
    intro c out c0 hcm _
    exact⟨[],by rw[Zs.l2_eq,if_neg (by omega),List.append_nil],by simp,Nat.zero_le _,fun h=>by omega⟩
   | succ n ihn =>
    intro c out c0 hcm hb
    rw[Nat.succ_mul]at hb
    have hgcd:=Gcd_ (a:=c) (b:=m) (by omega) (by omega) (by omega) (by omega)
    have wc:wrapI (c+1)=c+1:=w64 (by omega) (by omega)
    have hO:=Own_ us (by omega)
    have l1:([c]:List Int).length=1:=rfl
    rw[Zs.l2_eq,if_pos (by omega),hgcd,Option.bind_some,hO,wc]
    by_cases hc:((Int.gcd c m:Nat):Int)=1
    rotate_left
    ·
     obtain⟨O,o1,o2,o3,o4⟩:=ihn (c+1) out (by omega) (by omega) (by omega)
     refine⟨O,by rw[if_neg hc];exact o1,o2,by rw[Nat.succ_mul];omega,fun h=>absurd ?_ hc⟩
     rw[h,Int.gcd_comm,Int.gcd_one_right];rfl
    rw[if_pos hc]
    by_cases hz:us.length=0∧¬ c=1
    ·
     obtain⟨O,o1,o2,o3,o4⟩:=ihn (c+1) out (by omega) (by omega) (by omega)
     exact⟨O,by rw[if_neg (by omega),if_neg hz.2];exact o1,o2,by rw[Nat.succ_mul];omega,fun h=>absurd h hz.2⟩
    have hu' : ∀x∈us++[c],1≤x∧x < m∧Int.gcd x m=1:=fun x hx=>by
     rcases List.mem_append.1 hx with h|h
     ·
      exact hu x h
     ·
      rw[List.mem_singleton]at h
      subst h
      exact⟨c0,by omega,by omega⟩
    have e1:(us++[c]).length=us.length+1:=by simp
    obtain⟨O,o1,o2,o3,o4⟩:=ih (us++[c]) out hu' (by omega) (by omega) (by rw[e1,←hP];omega)
    rw[e1,←hP]at o3
    obtain⟨O', q1,q2,q3,q4⟩:=ihn (c+1) (out++O) (by omega) (by omega) (by rw[List.length_append];omega)
    refine⟨O++O', ?_,fun p hp => ?_,by rw[List.length_append,Nat.succ_mul];omega,fun h ha => ?_⟩
    ·
     rw[←List.append_assoc,←q1]
     by_cases hx:us.length=0
     ·
      have hc1:c=1:=Classical.byContradiction fun q=>hz ⟨hx,q⟩
      rw[if_neg (by omega),if_pos hc1]
      dsimp only[Option.bind_some]
      rw[l1,if_pos (by omega),o1]
      rfl
     ·
      rw[if_pos (by omega)]
      dsimp only[Option.bind_some]
      rw[l1,if_pos (by omega),o1]
      rfl
    ·
     rcases List.mem_append.1 hp with h|h
     ·
      exact o2 p h
     ·
      exact q2 p h
    ·
     have:=o4 fun x hx=>by
      rcases List.mem_append.1 hx with h' | h'
      ·
       exact ha x h'
      ·
       rw[List.mem_singleton]at h';omega
     simp[this]
  obtain⟨O,a1,a2,a3,a4⟩:=loop (m.toNat - 1) 1 out (by omega) (by omega) (by
   have:(m.toNat - 1)*P≤12*P:=Nat.mul_le_mul_right P (by omega)
   omega)
  refine⟨O,a1,a2,?_,fun h=>a4 rfl h⟩
  rw[hp12]
  exact Nat.le_trans a3 (Nat.mul_le_mul_right P (by omega))
theorem ZkY {g:List (List Int)} (hg:Grp g) {m:Int} (m2:2≤m) (m12:m≤12):∃O,Zbg.f g m=some O∧(∀p∈O,p.1=m∧Mdl g m p.2)∧0 < O.length∧O.length≤429981696:=by
 have n8:=hg.n8
 have hp:(12:Nat) ^ g.length≤429981696:=Nat.le_trans (Nat.pow_le_pow_right (by omega) n8) (by decide)
 obtain⟨O,o1,o2,o3,o4⟩:=Zkv hg m2 m12 fuel [] [] (by simp) (by simp) (by have:=ZkF;simp;omega) (by simp;omega)
 simp only[List.nil_append,List.length_nil,Nat.sub_zero]at o1 o3
 refine⟨O,by rw[Zbg.f_eq,o1];rfl,o2,List.length_pos_iff.2 (o4 (by simp)),by omega⟩
theorem Zk2 {c:List Int} {i:Int} (h:Src c i) (hh:Int):∃m j h', Za3.f c i hh=some (m,c,j,h')∧Src c j∧2≤m∧m≤12:=by
 obtain⟨x,j,h', e,s,hx⟩:=Pick_ h hh [2,2,3,3,4,4,5,6,8,8,9,12,7,10,11] (by simp) (by simp)
 refine⟨x,j,h', by rw[Za3.f_eq,e];rfl,s,?_⟩
 simp only[List.mem_cons,List.not_mem_nil,or_false]at hx
 omega
theorem ZkS {O:List (Int×List Int)} {x:Int} (x0:0≤x) (x1:x < O.length):Ty.rd (.pr (.int .i64) (.sl 2 (.int .i64))) O x∈O:=by
 obtain⟨n,rfl⟩:=Int.eq_ofNat_of_zero_le x0
 have hn:n < O.length:=by omega
 have:Ty.rd (.pr (.int .i64) (.sl 2 (.int .i64))) O (n:Int)=O[n]:=by
  simp[Ty.rd,List.getD_eq_getElem?_getD,List.getElem?_eq_getElem hn]
 rw[this]
 exact List.getElem_mem hn
theorem Zic {c:List Int} {i:Int} (h:Src c i) (hh:Int) {g:List (List Int)} (hg:Grp g) {m:Int} (m2:2≤m) (m12:m≤12):∃u j h', ZaG.f c i hh g m=some (m,u,c,j,h')∧Src c j∧Mdl g m u:=by
 obtain⟨O,o1,o2,o3,o4⟩:=ZkY hg m2 m12
 obtain⟨x,j,h', e,s,x0,x1,_⟩:=Next_ h hh (O.length:Int) (by omega)
 have x1:=x1 (by omega)
 have hm:=o2 _ (ZkS x0 x1)
 refine⟨(Ty.rd (.pr (.int .i64) (.sl 2 (.int .i64))) O x).2,j,h', ?_,s,hm.2⟩
 rw[ZaG.f_eq,o1,Option.bind_some,e]
 dsimp only[Option.bind_some]
 rw[if_pos x0,if_pos x1,if_pos x0,if_pos x1,hm.1]
end Go.Proofs.YthmcpmnhdbeahaaGreat.V
namespace Go.Proofs.YthmcpmnhdbeahaaGreat.V
open Go Go.RowKit Go.Proofs.YthmcpmnhdbeahaaGreat.D Go.Proofs.YthmcpmnhdbeahaaGreat.P
def SmT (g:List (List Int)):Prop:=g.length≤9∧∀r∈g,r.length≤9
theorem SmT.max {g:List (List Int)} (h:SmT g):g.length≤maxLen∧∀r∈g,r.length≤maxLen:=⟨Zbo (by have:=h.1;omega),fun r hr=>Zbo (by have:=h.2 r hr;omega)⟩
theorem Zlh {g:List (List Int)} (hg:Grp g):SmT g:=⟨by have:=hg.n8;omega,fun r hr=>by have:=ZeJ hg r hr;omega⟩
theorem Zjj {g:List (List Int)} (hg:SmT g) {r:List Int} (hr:r.length≤9) (k:Nat):SmT (g.set k r):=by
 refine⟨by rw[List.length_set];exact hg.1,fun s hs => ?_⟩
 rcases List.mem_or_eq_of_mem_set hs with h|rfl
 ·
  exact hg.2 s h
 ·
  exact hr
theorem Bad_ {c:List Int} {i:Int} (h:Src c i) (hh:Int) {g:List (List Int)} (hg:Grp g):∃g' j h', Zbf.f c i hh g=some (g', c,j,h')∧Src c j∧SmT g' := by
 have n8:=hg.n8;have n1:=hg.n1
 have hsm:=Zlh hg
 have hc:=Copy_ g (by omega) (fun r hr=>by have:=ZeJ hg r hr;omega)
 obtain⟨x,j,h', e,s,x0,x1,_⟩:=Next_ h hh 50 (by omega)
 obtain⟨y,j2,h2,e2,s2,y0,y1,_⟩:=Next_ s h' (g.length:Int) (by omega)
 have y1:=y1 (by omega)
 have ry:=hg.row y y0 y1
 rw[Zbf.f_eq,hc,Option.bind_some,e]
 dsimp only[Option.bind_some]
 by_cases q0:x=0
 ·
  exact⟨[],j,h', by rw[if_pos q0],s,by simp[SmT]⟩
 by_cases q1:x=1
 ·
  obtain⟨z,j3,h3,e3,s3,z0,z1,_⟩:=Next_ s2 h2 (g.length:Int) (by omega)
  have z1:=z1 (by omega)
  obtain⟨v,j4,h4,e4,s4,_⟩:=Pick_ s3 h3 [0,1,-1,(g.length:Int)] (by simp) (by simp)
  refine⟨g.set y.toNat ((row g y).set z.toNat v),j4,h4,?_,s4,Zjj hsm (by rw[List.length_set];omega) _⟩
  rw[if_neg q0,if_pos q1,Zay.f_eq,Option.bind_some,e2]
  dsimp only[Option.bind_some]
  rw[if_pos y0,if_pos y1,if_pos y0,if_pos y1,e3]
  dsimp only[Option.bind_some]
  rw[e4]
  dsimp only[Option.bind_some]
  rw[if_pos z0,if_pos (by omega),if_pos z0,if_pos (by omega)]
 by_cases q2:x=2
 ·
  have r0:=hg.row 0 (by omega) (by omega)
  have l1:([row g 0]:List (List Int)).length=1:=rfl
  refine⟨g++[row g 0],j,h', ?_,s,⟨by rw[List.length_append,l1];omega,fun r hr => ?_⟩⟩
  ·
   rw[if_neg q0,if_neg q1,if_pos q2,if_pos (by omega),if_pos (by omega),Own_ _ (by omega)]
   dsimp only[Option.bind_some]
   rw[l1,if_pos (by omega)]
  ·
   rcases List.mem_append.1 hr with k|k
   ·
    exact hsm.2 r k
   ·
    rw[List.mem_singleton]at k
    subst k
    omega
 by_cases q3:x=3
 ·
  refine⟨g.set y.toNat ((row g y).drop 1),j2,h2,?_,s2,Zjj hsm (by rw[List.length_drop];omega) _⟩
  rw[if_neg q0,if_neg q1,if_neg q2,if_pos q3,Zay.f_eq,Option.bind_some,e2]
  dsimp only[Option.bind_some]
  rw[if_pos y0,if_pos y1,if_pos y0,if_pos y1,if_pos (by omega),if_pos y0,if_pos y1,if_pos y0,if_pos y1]
  rfl
 ·
  exact⟨g,j,h', by rw[if_neg q0,if_neg q1,if_neg q2,if_neg q3],s,hsm⟩
theorem Zk1 {c:List Int} {i:Int} (h:Src c i) (hh:Int) (m:Int) {u:List Int} (u1:1≤u.length) (u8:u.length≤8):∃m' u' j h', Zbh.f c i hh m u=some (m', u', c,j,h')∧Src c j∧u'.length≤9:=by
 obtain⟨x,j,h', e,s,x0,x1,_⟩:=Next_ h hh 40 (by omega)
 rw[Zbh.f_eq,e]
 dsimp only[Option.bind_some]
 by_cases q0:x=0
 ·
  obtain⟨v,j4,h4,e4,s4,_⟩:=Pick_ s h' [1,13,wrapI (m+1),0] (by simp) (by simp)
  refine⟨v,u,j4,h4,?_,s4,by omega⟩
  rw[if_pos q0,e4]
  rfl
 by_cases q1:x=1
 ·
  obtain⟨y,j2,h2,e2,s2,y0,y1,_⟩:=Next_ s h' (u.length:Int) (by omega)
  have y1:=y1 (by omega)
  obtain⟨v,j4,h4,e4,s4,_⟩:=Pick_ s2 h2 [0,-1,2,3,m] (by simp) (by simp)
  refine⟨m,u.set y.toNat v,j4,h4,?_,s4,by rw[List.length_set];omega⟩
  rw[if_neg q0,if_pos q1,Own_ u (by omega)]
  dsimp only[Option.bind_some]
  rw[e2]
  dsimp only[Option.bind_some]
  rw[e4]
  dsimp only[Option.bind_some]
  rw[if_pos y0,if_pos y1,if_pos y0,if_pos y1]
 by_cases q2:x=2
 ·
  have l1:([1]:List Int).length=1:=rfl
  refine⟨m,u++[1],j,h', ?_,s,by rw[List.length_append,l1];omega⟩
  rw[if_neg q0,if_neg q1,if_pos q2,Own_ u (by omega)]
  dsimp only[Option.bind_some]
  rw[l1,if_pos (by omega)]
 ·
  exact⟨m,u,j,h', by rw[if_neg q0,if_neg q1,if_neg q2],s,by omega⟩
theorem Zkn {g:List (List Int)} (hg:Grp g) {m:Int} {u:List Int} (hm:Mdl g m u):1≤u.length∧u.length≤8:=by
 have:=hg.n8;have:=hg.n1;have:=hm.len
 omega
structure CodeL (c:List Int):Prop where
 ent:∀x∈c,0≤x∧x≤255
 len:c.length≤4096
end Go.Proofs.YthmcpmnhdbeahaaGreat.V
namespace Go.Proofs.YthmcpmnhdbeahaaGreat.V
open Go Go.RowKit Go.Proofs.YthmcpmnhdbeahaaGreat.D Go.Proofs.YthmcpmnhdbeahaaGreat.P
theorem Zke {c:List Int} {i:Int} (h:Src c i) (hh:Int):∃G j h', ZaT.f c i hh=some (G,c,j,h')∧Src c j∧SmT G:=by
 obtain⟨G,j,h', e,s,hg⟩:=Draw_ h hh
 obtain⟨G', j2,h2,e2,s2,hg2⟩:=Bad_ s h' hg
 refine⟨G', j2,h2,?_,s2,hg2⟩
 rw[ZaT.f_eq,e]
 dsimp only[Option.bind_some]
 rw[e2]
 rfl
end Go.Proofs.YthmcpmnhdbeahaaGreat.V
namespace Go.Proofs.YthmcpmnhdbeahaaGreat.V
open Go Go.RowKit Go.Proofs.YthmcpmnhdbeahaaGreat.D Go.Proofs.YthmcpmnhdbeahaaGreat.P
theorem Zfw {c:List Int} {i:Int} (h:Src c i) (hh:Int) (g:List (List Int)):∃m u j h', ZaE.f c i hh g=some (m,u,c,j,h')∧Src c j∧u.length≤9:=by
 by_cases hg:Grp g
 rotate_left
 ·
  exact⟨3,[1],i,hh,by rw[ZaE.f_eq,Is_ g,B_neg hg];rfl,h,by simp⟩
 obtain⟨m,j2,h2,e2,s2,m2,m12⟩:=Zk2 h hh
 obtain⟨u,j3,h3,e3,s3,hm⟩:=Zic s2 h2 hg m2 m12
 obtain⟨u1,u8⟩:=Zkn hg hm
 obtain⟨m', u', j4,h4,e4,s4,hu'⟩:=Zk1 s3 h3 m u1 u8
 refine⟨m', u', j4,h4,?_,s4,hu'⟩
 rw[ZaE.f_eq,Is_ g,B_pos hg,Option.bind_some,if_pos rfl,e2]
 dsimp only[Option.bind_some]
 rw[e3]
 dsimp only[Option.bind_some]
 rw[e4]
 rfl
theorem ZdY {c:List Int} (h:CodeL c):∃g m u,ZW.f c=some (g,m,u)∧SmT g∧u.length≤9:=by
 obtain⟨h0,e0,s0⟩:=From_ h.ent h.len
 obtain⟨g,j1,h1,e1,s1,hg⟩:=Zke s0 h0
 obtain⟨m,u,j2,h2,e2,s2,hu⟩:=Zfw s1 h1 g
 refine⟨g,m,u,?_,hg,hu⟩
 rw[ZW.f_eq,Zbb.f_eq,e0]
 dsimp only[Option.bind_some]
 rw[e1]
 dsimp only[Option.bind_some]
 rw[e2]
 rfl
theorem ZdE {c:List Int} (h:CodeL c):∃g m u m' u', ZN.f c=some (g,m,u,m', u')∧SmT g∧u.length≤9∧u'.length≤9:=by
 obtain⟨h0,e0,s0⟩:=From_ h.ent h.len
 obtain⟨g,j1,h1,e1,s1,hg⟩:=Zke s0 h0
 obtain⟨m,u,j2,h2,e2,s2,hu⟩:=Zfw s1 h1 g
 obtain⟨m3,u3,j3,h3,e3,s3,hu3⟩:=Zfw s2 h2 g
 obtain⟨x,j4,h4,e4,s4,x0,x1,_⟩:=Next_ s2 h2 2 (by omega)
 obtain⟨m5,u5,j5,h5,e5,s5,hu5⟩:=Zfw s4 h4 g
 have start:ZN.f c=((Zj.f g).bind fun t16=>if t16=true then((Za5.f m 2 12).bind fun t20=>if t20=true then((ZZ.f c j2 h2 2).bind fun t24=>if t24.1=0 then((ZaG.f t24.2.1 t24.2.2.1 t24.2.2.2 g m).bind fun t33=>some (g,m,u,t33.1,t33.2.1))else((ZaE.f t24.2.1 t24.2.2.1 t24.2.2.2 g).bind fun t38=>some (g,m,u,t38.1,t38.2.1)))else((ZaE.f c j2 h2 g).bind fun t38=>some (g,m,u,t38.1,t38.2.1)))else((ZaE.f c j2 h2 g).bind fun t38=>some (g,m,u,t38.1,t38.2.1))).bind fun t6=>some (t6.1,t6.2.1,t6.2.2.1,t6.2.2.2.1,t6.2.2.2.2):=by
  rw[ZN.f_eq,Zbi.f_eq,e0]
  dsimp only[Option.bind_some]
  rw[e1]
  dsimp only[Option.bind_some]
  rw[e2]
  rfl
 rw[start]
 have other:∃m' u', ((ZaE.f c j2 h2 g).bind fun t38=>some (g,m,u,t38.1,t38.2.1))=some (g,m,u,m', u')∧u'.length≤9:=⟨m3,u3,by rw[e3];rfl,hu3⟩
 by_cases hgr:Grp g
 rotate_left
 ·
  obtain⟨m', u', e,hl⟩:=other
  exact⟨g,m,u,m', u', by rw[Is_ g,B_neg hgr,Option.bind_some,if_neg (by decide),e];rfl,hg,hu,hl⟩
 rw[Is_ g,B_pos hgr,Option.bind_some,if_pos rfl,In_]
 by_cases hm:2≤m∧m≤12
 rotate_left
 ·
  obtain⟨m', u', e,hl⟩:=other
  exact⟨g,m,u,m', u', by rw[B_neg hm,Option.bind_some,if_neg (by decide),e];rfl,hg,hu,hl⟩
 rw[B_pos hm,Option.bind_some,if_pos rfl,e4]
 dsimp only[Option.bind_some]
 by_cases q:x=0
 ·
  obtain⟨u6,j6,h6,e6,s6,hm6⟩:=Zic s4 h4 hgr hm.1 hm.2
  refine⟨g,m,u,m,u6,?_,hg,hu,by have:=(Zkn hgr hm6).2;omega⟩
  rw[if_pos q,e6]
  rfl
 ·
  refine⟨g,m,u,m5,u5,?_,hg,hu,hu5⟩
  rw[if_neg q,e5]
  rfl
theorem ZiF (g:List (List Int)) (m:Int) (u:List Int) (hl:g.length≤maxLen) (hr:∀r∈g,r.length≤maxLen) (hu:u.length≤maxLen) :
  ∃(F Df K W:List Int) (N mm e:Int),(Zal.f g m u=some (F,e)∧Zam.f g m u=some (F,e))∧(Zg.f g m u=some (Df,e)∧ZJ.f g m u=some (Df,e))∧(ZaL.f g m u=some (N,e)∧ZaM.f g m u=some (N,e)) ∧
   (ZaV.f g m u=some (K,e)∧Zai.f g m u=some (K,e))∧(Zan.f g m u=some (mm,W,e)∧ZT.f g m u=some (mm,W,e))∧(F.length≤12∧Df.length≤12∧K.length≤8∧W.length≤8) ∧
   ((¬ e=0∧F=[])∨(e=0∧mm=m∧g.length≤8∧(F.length:Int)*Df.length=m∧2≤m∧m≤12∧N∈F∧0 < K.length∧K.length∣g.length∧u.length≤8∧Zan.f g m W=some (m,u,0)∧(∃L:List Int,L.length≤8∧ZK.f g m u m W=some (m,L,0)∧Z6.f g m=some (m,L,0))∧ZF.f g m u 0=some ((F.length:Int),0))):=by
 by_cases h:GM g m u
 rotate_left
 ·
  have cI:=ZdA g hl hr m u hu
  have cS:=Ziu (g:=g) (m:=m) hu
  rw[ZbB h]at cI cS
  refine⟨[],[],[],[],0,0,1,⟨?_,?_⟩,⟨?_,?_⟩,⟨?_,?_⟩,⟨?_,?_⟩,⟨?_,?_⟩,by simp,.inl ⟨by omega,rfl⟩⟩
  ·
   rw[Zal.f_eq,cI];rfl
  ·
   rw[Zam.f_eq,cS];rfl
  ·
   rw[Zg.f_eq,cI];rfl
  ·
   rw[ZJ.f_eq,cS];rfl
  ·
   rw[ZaL.f_eq,cI];rfl
  ·
   rw[ZaM.f_eq,cS];rfl
  ·
   rw[ZaV.f_eq,cI];rfl
  ·
   rw[Zai.f_eq,cS];rfl
  ·
   rw[Zan.f_eq,cI];rfl
  ·
   rw[ZT.f_eq,cS];rfl
 obtain⟨hg,hm⟩:=h
 have m2:=hm.m2;have m12:=hm.m12;have n8:=hg.n8;have n1:=hg.n1;have hul:=hm.len
 obtain⟨M,D,hM,D1,hmod,hM12,hfix,f1,f2,d1,d2,fl,dl,hk⟩:=ZjI hg hm
 obtain⟨N,n1', n2,N0,N1,hN⟩:=ZkP hg hm
 obtain⟨K,k1,k2,k3,k4,k5⟩:=ZgX hg hm
 obtain⟨W,w1,w2,hW,hWr⟩:=ZiA hg hm
 obtain⟨W2,v1,_,hW2,hW2r⟩:=ZiA hg hW
 have hWl:=hW.len
 have hW2l:=hW2.len
 have hback:W2=u:=by
  refine Zhu (by omega) fun i i0 i1 => ?_
  obtain⟨y,⟨y0,y1⟩,h1,h2⟩:=hW2r i i0 (by omega)
  obtain⟨z,⟨z0,z1⟩,h3,h4⟩:=hWr y y0 y1
  rw[h2,h4,ZjN hg i0 (by omega) y0 y1 z0 z1 h1 h3]
 obtain⟨p1,_⟩:=ZdC hg hm hW
 have hones:((List.range g.length).map fun x:Nat=>rd u (x:Int)*rd W (x:Int)%m)=List.replicate g.length 1:=by
  refine List.eq_replicate_iff.2 ⟨by simp,fun b hb => ?_⟩
  obtain⟨x,hx,rfl⟩:=List.mem_map.1 hb
  have hx:=List.mem_range.1 hx
  obtain⟨y,⟨y0,y1⟩,h1,h2⟩:=hWr (x:Int) (by omega) (by omega)
  rw[h2]
  exact ZjO hg hm (by omega) (by omega) y0 y1 h1
 rw[hones]at p1
 have hDM:D*(M / D)=M:=Nat.mul_div_cancel' (Nat.dvd_of_mod_eq_zero hmod)
 have hD12:D≤12:=by
  have:=Nat.le_of_dvd (by omega) (Nat.dvd_of_mod_eq_zero hmod)
  omega
 have hq12:M / D≤12:=by have:=Nat.div_le_self M D;omega
 have ho:=ZhY hg hm hM D1 hmod hfix
 refine⟨mulL (M / D) M,mulL D M,K,W,N,m,0,⟨f1,f2⟩,⟨d1,d2⟩,⟨n1', n2⟩,⟨k1,k2⟩,⟨w1,w2⟩,⟨by omega,by omega,k4,by omega⟩,.inr ⟨rfl,rfl,n8,by rw[fl,dl,←Int.natCast_mul,hDM,hM],m2,m12,?_,k3,k5,by omega,by rw[v1,hback],⟨List.replicate g.length 1,by simp;omega,p1,Zh8 hg m2 m12⟩,by rw[fl];exact ho⟩⟩
 rw[hk]
 obtain⟨n,rfl⟩:=Int.eq_ofNat_of_zero_le N0
 unfold kept
 refine List.mem_map.2 ⟨n,List.mem_filter.2 ⟨List.mem_range.2 (by omega),?_⟩,rfl⟩
 rw[decide_eq_true_eq]
 exact(hfix n (by omega)).1 hN
theorem ZjW (g:List (List Int)) (m:Int) (u:List Int) (m' : Int) (w:List Int) (hl:g.length≤maxLen) (hr:∀r∈g,r.length≤maxLen) (hu:u.length≤maxLen) (hw:w.length≤maxLen) :
  ∃(pm:Int) (L:List Int) (pe:Int) (K:List Int) (ke:Int),(ZK.f g m u m' w=some (pm,L,pe)∧Zz.f g m u m' w=some (pm,L,pe))∧(Zag.f g m u m' w=some (K,ke)∧Zy.f g m u m' w=some (K,ke))∧(L.length≤8∧K.length≤12)∧(pe=0→ZK.f g m' w m u=some (pm,L,0))∧(ke=0→0 < K.length∧rd K 0=0):=by
 have cI:=Zit hl hr (m:=m) (m' := m') hu hw
 have cS:=Ziv (g:=g) (m:=m) (m' := m') hu hw
 by_cases h:GM g m u∧GM g m' w
 rotate_left
 ·
  rw[ZbB h]at cI cS
  refine⟨0,[],1,[],1,⟨?_,?_⟩,⟨?_,?_⟩,by simp,fun q=>by omega,fun q=>by omega⟩
  ·
   rw[ZK.f_eq,cI];rfl
  ·
   rw[Zz.f_eq,cS];rfl
  ·
   rw[Zag.f_eq,cI];rfl
  ·
   rw[Zy.f_eq,cS];rfl
 rw[ZbG h]at cI cS
 obtain⟨⟨hg,hm⟩,_,hm'⟩:=h
 have n8:=hg.n8
 obtain⟨K,k1,k2,k3,k4,k5⟩:=ZkK hg hm hm'
 by_cases q:m=m'
 ·
  subst q
  obtain⟨p1,p2⟩:=ZdC hg hm hm'
  obtain⟨p3,_⟩:=ZdC hg hm' hm
  have hc:((List.range g.length).map fun x:Nat=>rd w (x:Int)*rd u (x:Int)%m)=((List.range g.length).map fun x:Nat=>rd u (x:Int)*rd w (x:Int)%m):=by
   apply List.map_congr_left
   intro x _
   rw[Int.mul_comm]
  rw[hc]at p3
  exact⟨m,_,0,K,0,⟨p1,p2⟩,⟨k1,k2⟩,⟨by simp;omega,k4⟩,fun _=>p3,fun _=>⟨k3,k5⟩⟩
 ·
  refine⟨0,[],5,K,0,⟨?_,?_⟩,⟨k1,k2⟩,⟨by simp,k4⟩,fun q=>by omega,fun _=>⟨k3,k5⟩⟩
  ·
   rw[ZK.f_eq,cI,Option.bind_some,if_pos rfl,if_neg q]
  ·
   rw[Zz.f_eq,cS,Option.bind_some,if_pos rfl,if_neg q]
end Go.Proofs.YthmcpmnhdbeahaaGreat.V
namespace Go.Proofs.YthmcpmnhdbeahaaGreat.Pure
open Go.RowKit Go.Proofs.YthmcpmnhdbeahaaGreat.D Go.Proofs.YthmcpmnhdbeahaaGreat.P Go.Proofs.YthmcpmnhdbeahaaGreat.V
theorem Zc9 (xs:List Int) (hl:xs.length≤1048576):Z8.f xs xs=some true:=by
 have main:=up xs.length (fun k=>Z8.l0 xs xs (k:Int)) (fun k hk=>by
  rw[Z8.l0_eq,if_pos (by omega),if_pos (by omega),if_pos (by omega),if_pos (by omega),if_pos (by omega),if_pos rfl,wn (j:=k) (by omega)])
 simp only[Int.natCast_zero]at main
 rw[Z8.f_eq,if_pos rfl,main,Z8.l0_eq,if_neg (by omega)]
theorem ZdR (m:Int) (xs:List Int) (hl:xs.length≤1048576):ZaP.f m xs m xs=some true:=by
 rw[ZaP.f_eq,if_pos rfl,Zc9 xs hl]
 rfl
theorem ZkH {xs:List Int} {x:Int} (hx:x∈xs) (hl:xs.length≤1000000):ZaJ.f xs x=some true:=by
 rw[ZaJ.f_eq]
 rcases scan xs.length (fun i=>ZaJ.l0 xs x i) (fun i=>¬ rd xs i=x) (some true) (fun i i0 i1 _=>by
  have e:ZaJ.l0 xs x i=if rd xs i=x then some true else ZaJ.l0 xs x (i+1):=by
   rw[ZaJ.l0_eq,if_pos (by omega),if_pos (by omega),if_pos (by omega),w64 (x:=i+1) (by omega) (by omega)]
  exact⟨fun k=>by rw[e,if_neg k],fun k=>by rw[e,if_pos (Classical.byContradiction k)]⟩)with ⟨h1,_⟩|⟨_,_,_,_,_,_,h2⟩
 ·
  obtain⟨j,hj,e⟩:=List.mem_iff_getElem.1 hx
  exact absurd (by rw[V.rd_get hj];exact e) (h1 (j:Int) (by omega) (by omega))
 ·
  exact h2
theorem FnFixed_pure:∀(c:List Int),c.length≤maxLen→(∀x∈c,(Lit.int .u8 x).wf=true)→Zas.f c=some true:=by
 intro c hl hx
 rw[Zas.f_eq,Zbq.f_eq]
 dsimp only[Option.bind_some]
 by_cases hb:(c.length:Int) > 4096
 ·
  rw[decide_eq_true hb,if_pos rfl]
 rw[decide_eq_false hb,if_neg (by decide)]
 have h:CodeL c:=⟨fun x hx' => by have:=hx x hx';simp[Lit.wf,IntKind.bits,IntKind.signed,IntKind.min,IntKind.max]at this;omega,by omega⟩
 obtain⟨g,m,u,e1,s1,su⟩:=ZdY h
 obtain⟨g', m1,u1,m2,u2,e2,s2,su1,su2⟩:=ZdE h
 obtain⟨F,Df,K,W,N,mm,e,⟨f1,f2⟩,⟨d1,d2⟩,⟨n1,n2⟩,⟨k1,k2⟩,⟨w1,w2⟩,⟨l1,l2,l3,l4⟩,hsem⟩:=ZiF g m u s1.max.1 s1.max.2 (Zbo (by omega))
 obtain⟨pm,L,pe,Mp,ke,⟨p1,p2⟩,⟨q1,q2⟩,⟨l5,l6⟩,hp,hk⟩:=ZjW g' m1 u1 m2 u2 s2.max.1 s2.max.2 (Zbo (by omega)) (Zbo (by omega))
 have fin:Zas.j0 e e N e e e ke g m u F Df K mm Mp W=some true:=by
  have rest:∀r:Option Bool,(if e=0 then((Zan.f g mm W).bind fun t257=>(ZK.f g m u mm W).bind fun t264=>(Z6.f g m).bind fun t271=>(ZF.f g m u 0).bind fun t277=>if e=0 then(if e=0 then(if e=0 then(if e=0 then(if(wrapI ((F.length:Int)*(Df.length:Int)))=m then((ZaJ.f F N).bind fun t307=>if t307=true then(if(K.length:Int) > 0 then(if(K.length:Int)=0 then none else(if(((g.length:Int):Int).tmod (K.length:Int))=0 then(if t257.2.2=0 then((ZaP.f t257.1 t257.2.1 m u).bind fun t330=>if t330=true then(if t264.2.2=0 then(if t271.2.2=0 then((ZaP.f t264.1 t264.2.1 t271.1 t271.2.1).bind fun t343=>if t343=true then(if t277.2=0 then(some (decide (t277.1=(F.length:Int))))else(some false))else(some false))else(some false))else(some false))else(some false))else(some false))else(some false)))else(some false))else(some false))else(some false))else(some false))else(some false))else(some false))else(some false))else(if(F.length:Int)=0 then(if e=e then(some (decide (e=e)))else(some false))else(some false)))=some true:=by
   intro _
   rcases hsem with ⟨e0,rfl⟩|⟨rfl,rfl,n8,hprod,m2', m12,hN,hK0,hKd,hul,hdual,⟨T,hT,hpr,htr⟩,hord⟩
   ·
    rw[if_neg e0,if_pos (by simp),if_pos rfl]
    simp
   ·
    rw[if_pos rfl,hdual]
    dsimp only[Option.bind_some]
    rw[hpr]
    dsimp only[Option.bind_some]
    rw[htr]
    dsimp only[Option.bind_some]
    rw[hord]
    dsimp only[Option.bind_some]
    have hz:((g.length:Int)).tmod (K.length:Int)=0:=by
     rw[Zbz (by omega)]
     exact Int.emod_eq_zero_of_dvd (Int.natCast_dvd_natCast.2 hKd)
    rw[if_pos rfl,if_pos rfl,if_pos rfl,if_pos rfl,hprod,w64 (by omega) (by omega),if_pos rfl,ZkH hN (by omega),Option.bind_some,if_pos rfl,if_pos (by omega),if_neg (by omega),if_pos hz,if_pos rfl,ZdR _ _ (by omega),Option.bind_some,if_pos rfl,if_pos rfl,if_pos rfl,ZdR _ _ (by omega),Option.bind_some,if_pos rfl,if_pos rfl]
    simp
  rw[Zas.j0_eq]
  by_cases hke:ke=0
  ·
   obtain⟨h1,h2⟩:=hk hke
   rw[if_pos hke,if_neg (by omega),if_pos (by omega),if_pos (by omega),if_pos h2]
   exact rest none
  ·
   rw[if_neg hke]
   exact rest none
 rw[e1]
 dsimp only[Option.bind_some]
 rw[f1]
 dsimp only[Option.bind_some]
 rw[f2]
 dsimp only[Option.bind_some]
 rw[if_pos rfl,Zc9 F (by omega)]
 dsimp only[Option.bind_some]
 rw[if_pos rfl,d1]
 dsimp only[Option.bind_some]
 rw[d2]
 dsimp only[Option.bind_some]
 rw[if_pos rfl,Zc9 Df (by omega)]
 dsimp only[Option.bind_some]
 rw[if_pos rfl,n1]
 dsimp only[Option.bind_some]
 rw[n2]
 dsimp only[Option.bind_some]
 rw[if_pos rfl,if_pos rfl,k1]
 dsimp only[Option.bind_some]
 rw[k2]
 dsimp only[Option.bind_some]
 rw[if_pos rfl,Zc9 K (by omega)]
 dsimp only[Option.bind_some]
 rw[if_pos rfl,w1]
 dsimp only[Option.bind_some]
 rw[w2]
 dsimp only[Option.bind_some]
 rw[if_pos rfl,ZdR mm W (by omega)]
 dsimp only[Option.bind_some]
 rw[if_pos rfl,e2]
 dsimp only[Option.bind_some]
 rw[p1]
 dsimp only[Option.bind_some]
 rw[p2]
 dsimp only[Option.bind_some]
 rw[if_pos rfl,ZdR pm L (by omega)]
 dsimp only[Option.bind_some]
 rw[if_pos rfl,q1]
 dsimp only[Option.bind_some]
 rw[q2]
 dsimp only[Option.bind_some]
 rw[if_pos rfl,Zc9 Mp (by omega)]
 dsimp only[Option.bind_some]
 rw[if_pos rfl]
 by_cases hpe:pe=0
 ·
  rw[if_pos hpe,hp hpe]
  dsimp only[Option.bind_some]
  rw[if_pos rfl,ZdR pm L (by omega)]
  dsimp only[Option.bind_some]
  rw[if_pos rfl]
  exact fin
 ·
  rw[if_neg hpe]
  exact fin
end Go.Proofs.YthmcpmnhdbeahaaGreat.Pure
namespace Go.Proofs.YthmcpmnhdbeahaaGreat.shut
theorem mayEnter:Tryz.pinned.checked.prog.mayEnter=true:=by kernel_rfl
theorem lifted:(Rows.fnPairsRow.lifted == Tryz.pinned.checked.prog.liftsFinal)=true:=by kernel_rfl
theorem make:(Tryz.pinned.checked.prog.make == some Rows.fnPairsRow.make)=true:=by kernel_rfl
end Go.Proofs.YthmcpmnhdbeahaaGreat.shut
