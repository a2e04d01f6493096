/- What the proof of the law Extensions stands on, part 9: words, each Go function's Lean function, and that the Go code comes to its answers; no condition. (Packed by wip/myprint/pack.py out of what the kit's printer wrote, its words among it, partly by our patches of it, and out of texts of this session.) -/
import Derived.Sort.LotA
import Derived.Sort.LotB
import Derived.Sort.LotC
import Derived.Sort.LotD3
import Derived.Lib.ItoaNum
import Derived.Test.YthmcpmnhdbeahaaGreatRows
import Derived.WalkKit
import Derived.ProofKit
import Derived.KernelRfl
import Derived.Test.YthmcpmnhdbeahaaGreatKExtensions3
import Derived.Test.YthmcpmnhdbeahaaGreatKExtensions4
import Derived.Test.YthmcpmnhdbeahaaGreatKExtensions5
import Derived.Test.YthmcpmnhdbeahaaGreatKExtensions6
import Derived.Test.YthmcpmnhdbeahaaGreatKExtensions7
import Derived.Test.YthmcpmnhdbeahaaGreatKExtensions8
set_option linter.unusedVariables false
set_option linter.unusedSimpArgs false
namespace Go.Proofs.YthmcpmnhdbeahaaGreat.R
open Go Go.RowKit Go.Proofs.YthmcpmnhdbeahaaGreat.D
noncomputable def bits_Len.f (a0:Int):Option Int:=if 0≤a0∧a0≤18446744073709551615 then some (Lib.bitLen a0.toNat:Int)else none
noncomputable def bits_Len.con:Con:=⟨[.one (.v (.int .u64))],[.one (.v (.int .i64))],Int,fun x=>bits_Len.f x.1,fun r=>((r,()),(()))⟩
theorem bits_Len.valid:Valid Tryz.prog 177 bits_Len.con:=ZiP ⟨_,Tryz.func177,by kernel_rfl,by kernel_rfl⟩ fun x y w h=>by
 unfold bits_Len.f at h
 split at h
 ·
  cases h
  exact P.Tryz.bits_Len x w (by omega) (by omega)
 ·
  cases h
end Go.Proofs.YthmcpmnhdbeahaaGreat.R
set_option maxRecDepth 100000
namespace Go.Proofs.YthmcpmnhdbeahaaGreat.R
open Go Go.RowKit Go.Proofs.YthmcpmnhdbeahaaGreat.D
end Go.Proofs.YthmcpmnhdbeahaaGreat.R
namespace Go.Proofs.YthmcpmnhdbeahaaGreat.R
open Go Go.RowKit Go.Proofs.YthmcpmnhdbeahaaGreat.D
end Go.Proofs.YthmcpmnhdbeahaaGreat.R
namespace Go.Proofs.YthmcpmnhdbeahaaGreat.R
open Go Go.RowKit Go.Proofs.YthmcpmnhdbeahaaGreat.D
end Go.Proofs.YthmcpmnhdbeahaaGreat.R
namespace Go.Proofs.YthmcpmnhdbeahaaGreat.R
open Go Go.RowKit Go.Proofs.YthmcpmnhdbeahaaGreat.D
end Go.Proofs.YthmcpmnhdbeahaaGreat.R
namespace Go.Proofs.YthmcpmnhdbeahaaGreat.R
open Go Go.RowKit Go.Proofs.YthmcpmnhdbeahaaGreat.D
end Go.Proofs.YthmcpmnhdbeahaaGreat.R
namespace Go.Proofs.YthmcpmnhdbeahaaGreat.R
open Go Go.RowKit Go.Proofs.YthmcpmnhdbeahaaGreat.D
end Go.Proofs.YthmcpmnhdbeahaaGreat.R
namespace Go.Proofs.YthmcpmnhdbeahaaGreat.R
open Go Go.RowKit Go.Proofs.YthmcpmnhdbeahaaGreat.D
end Go.Proofs.YthmcpmnhdbeahaaGreat.R
namespace Go.Proofs.YthmcpmnhdbeahaaGreat.R
open Go Go.RowKit Go.Proofs.YthmcpmnhdbeahaaGreat.D
end Go.Proofs.YthmcpmnhdbeahaaGreat.R
namespace Go.Proofs.YthmcpmnhdbeahaaGreat.R
open Go Go.RowKit Go.Proofs.YthmcpmnhdbeahaaGreat.D
end Go.Proofs.YthmcpmnhdbeahaaGreat.R
namespace Go.Proofs.YthmcpmnhdbeahaaGreat.R
open Go Go.RowKit Go.Proofs.YthmcpmnhdbeahaaGreat.D
end Go.Proofs.YthmcpmnhdbeahaaGreat.R
namespace Go.Proofs.YthmcpmnhdbeahaaGreat.R
open Go Go.RowKit Go.Proofs.YthmcpmnhdbeahaaGreat.D
end Go.Proofs.YthmcpmnhdbeahaaGreat.R
namespace Go.Proofs.YthmcpmnhdbeahaaGreat.R
open Go Go.RowKit Go.Proofs.YthmcpmnhdbeahaaGreat.D
end Go.Proofs.YthmcpmnhdbeahaaGreat.R
namespace Go.Proofs.YthmcpmnhdbeahaaGreat.R
open Go Go.RowKit Go.Proofs.YthmcpmnhdbeahaaGreat.D
end Go.Proofs.YthmcpmnhdbeahaaGreat.R
namespace Go.Proofs.YthmcpmnhdbeahaaGreat.R
open Go Go.RowKit Go.Proofs.YthmcpmnhdbeahaaGreat.D
end Go.Proofs.YthmcpmnhdbeahaaGreat.R
namespace Go.Proofs.YthmcpmnhdbeahaaGreat.R
open Go Go.RowKit Go.Proofs.YthmcpmnhdbeahaaGreat.D
end Go.Proofs.YthmcpmnhdbeahaaGreat.R
namespace Go.Proofs.YthmcpmnhdbeahaaGreat.R
open Go Go.RowKit Go.Proofs.YthmcpmnhdbeahaaGreat.D
end Go.Proofs.YthmcpmnhdbeahaaGreat.R
namespace Go.Proofs.YthmcpmnhdbeahaaGreat.D
open Go Go.RowKit
def hd (hs:List Value) (i:Nat):Value:=hs.getD i (.slice none 0 0)
def ct (xs:List (List Int)) (i:Nat):List Int:=xs.getD i []
theorem ZkO {hs:List Value} {i:Nat} (h:i < hs.length):hs[i]? = some (hd hs i):=by
 unfold hd
 rw[List.getD_eq_getElem?_getD,List.getElem?_eq_getElem h]
 rfl
theorem ZlM {xs:List (List Int)} {i:Nat} (h:i < xs.length):xs[i]? = some (ct xs i):=by
 unfold ct
 rw[List.getD_eq_getElem?_getD,List.getElem?_eq_getElem h]
 rfl
def Sel (hs:List Value) (xs:List (List Int)) (hs' : List Value) (ys:List (List Int)):Prop:=∃sel:List Nat,sel.Nodup∧(∀i∈sel,i < xs.length)∧hs' = sel.map (hd hs)∧ys=sel.map (ct xs)
section
variable {P:Program} {Z:Nat→Prop} {w:World}
structure Parts (w:World) (e e' : TypeId) (k:IntKind) (hdr:Value) (xs:List (List Int)) (F:Nat→Prop) (hs:List Value) (Fs:Nat→Nat→Prop):Prop where
 len:hs.length=xs.length
 raw:∀Z:Nat→Prop,ZbR w e 1 (Rep Z w true .raw) hdr hs (fun b=>hdr.ownBlock=some b)
 el:∀i,i < xs.length→ZbR w e' 1 (Rep (fun _=>False) w true (.int k)) (hd hs i) (ct xs i) (Fs i)∧NilOk e' (ct xs i).length (hd hs i)
 one:∀i,i < xs.length→(hd hs i).oneCell' = true
 sub:∀i b,Fs i b→i < xs.length∧F b∧hdr.ownBlock≠some b
 dis:∀i j b,i≠j→Fs i b→¬ Fs j b
 own:∀b,hdr.ownBlock=some b→F b
theorem parts {e e' : TypeId} {k:IntKind} {hdr:Value} {xs:List (List Int)} {F:Nat→Prop} (h:ZbR w e 1 (Rep Z w true (.sl e' (.int k))) hdr xs F):∃hs Fs,Parts w e e' k hdr xs F hs Fs:=by
 obtain⟨inner,ho,hb,Fs,hel,hsub,hd0⟩:=h
 have hl:inner.length=xs.length:=by have:=ho.1;omega
 have one:∀i,i < xs.length→(inner.drop (i*1)).take 1=[hd inner i]:=fun i hi=>by
  rw[Nat.mul_one]
  have e:inner[i]'(by omega)=hd inner i:=Option.some.inj ((List.getElem?_eq_getElem (by omega)).symm.trans (ZkO (hs:=inner) (i:=i) (by omega)))
  rw[List.drop_eq_getElem_cons (by omega:i < inner.length),e]
  rfl
 have el:∀i,i < xs.length→ZbR w e' 1 (Rep Z w true (.int k)) (hd inner i) (ct xs i) (Fs i)∧NilOk e' (ct xs i).length (hd inner i):=fun i hi=>by
  obtain⟨h1,h2,h3,h4⟩:=hel i _ (ZlM hi)
  rw[one i hi]at h2
  cases h2
  exact⟨h3,h4⟩
 refine⟨inner,fun i b=>i < xs.length∧Fs i b,hl,fun Z2=>⟨inner,by rw[hl];exact ho,fun b hb' => hb', fun _ _=>False,fun j p hp => ?_,fun _ _ h=>h.elim,fun _ _ _ _ h=>h.elim⟩,fun i hi => ?_,fun i hi => ?_,fun i b hb' => ⟨hb'.1,hsub i b hb'.2⟩,fun i j b hij h1 h2=>hd0 i j b hij h1.2 h2.2,hb⟩
 ·
  have hj:j < xs.length:=by have:=(List.getElem?_eq_some_iff.1 hp).1;omega
  have e:=ZkO (hs:=inner) (i:=j) (by omega)
  rw[hp]at e
  cases e
  obtain⟨⟨inner2,h1,_⟩,_⟩:=el j hj
  exact⟨one j hj,ZcP h1⟩
 ·
  obtain⟨h1,h2⟩:=el i hi
  exact⟨ZbR.imp h1 (fun b hb' => ⟨hi,hb'⟩) (fun _ _=>rfl) fun p cs G _ hp=>hp,h2⟩
 ·
  obtain⟨⟨inner2,h1,_⟩,_⟩:=el i hi
  exact ZcP h1
theorem Parts.view {e e' : TypeId} {k:IntKind} {hdr:Value} {xs:List (List Int)} {F:Nat→Prop} {hs:List Value} {Fs:Nat→Nat→Prop} (h:Parts w e e' k hdr xs F hs Fs) {w1:World} (hsm:∀i b,Fs i b→w1.heap[b]? = w.heap[b]?) {i:Nat} (hi:i < xs.length) :
  Rep (fun b=>∃i,Fs i b) w1 false (.sl e' (.int k)) (ct xs i) [hd hs i] fun _=>False:=by
 obtain⟨k1,k2⟩:=h.el i hi
 have k3:Rep (fun _=>False) w1 true (.sl e' (.int k)) (ct xs i) [hd hs i] (Fs i):=⟨hd hs i,rfl,ZbR.imp k1 (fun _ h=>h) (fun b hb=>hsm i b hb) fun p cs G _ hp=>hp,k2⟩
 exact Rep.imp _ (Rep.view _ (fun _=>False) k3) (fun b hb=>hb.elim (fun h=>h.elim) fun h=>⟨i,h⟩) (fun _ h=>h) (fun _ _=>rfl) (fun _ _=>rfl)
theorem Parts.same {e e' : TypeId} {k:IntKind} {hdr:Value} {xs:List (List Int)} {F:Nat→Prop} {hs:List Value} {Fs:Nat→Nat→Prop} (h:Parts w e e' k hdr xs F hs Fs) {i j:Nat} (hi:i < xs.length) (hj:j < xs.length) (he:hd hs i=hd hs j):ct xs i=ct xs j:=by
 obtain⟨⟨in1,o1,b1,G1,e1,_,_⟩,_⟩:=h.el i hi
 obtain⟨⟨in2,o2,b2,G2,e2,_,_⟩,_⟩:=h.el j hj
 rw[←he]at o2 b2
 by_cases hij:i=j
 ·
  rw[hij]
 have nil:∀{v:Value} {n m:Nat} {a b:List Value},(v = .slice none 0 0∧n=0)→w.ownsRow 0 e' 1 v m b→m=0:=fun {v n m a b} h1 h2=>by
  rcases h2.2 with h|⟨g,cap,cur,h,_⟩
  ·
   exact h.2
  ·
   rw[h1.1]at h;cases h
 rcases o1.2 with q1|⟨g1,cap1,cur1,q1,_⟩
 ·
  have n1:(ct xs i).length=0:=q1.2
  have n2:(ct xs j).length=0:=nil (a:=in1) q1 o2
  rw[List.length_eq_zero_iff.1 n1,List.length_eq_zero_iff.1 n2]
 ·
  have f1:=b1 g1 (by rw[q1];rfl)
  have f2:=b2 g1 (by rw[q1];rfl)
  exact absurd f2 (h.dis i j g1 hij f1)
end
def Good2 {β : Type} (f:List Value→(Value→Value→Option β)→Option (List Value)) (xs:List (List Int)) (c:List Int→List Int→Option β) (ys:List (List Int)):Prop :=
 ∀(hs:List Value) (c' : Value→Value→Option β),hs.length=xs.length→(∀i j,i < xs.length→j < xs.length→c' (hd hs i) (hd hs j)=c (ct xs i) (ct xs j))→∃hs', f hs c' = some hs' ∧ Sel hs xs hs' ys
noncomputable def G2 {β : Type} (f:List Value→(Value→Value→Option β)→Option (List Value)) (xs:List (List Int)) (c:List Int→List Int→Option β):Option (List (List Int)):=open Classical in if h:∃ys,Good2 f xs c ys then some (Classical.choose h)else none
def Good1 {β : Type} (f:List Value→(Value→Option β)→Option (List Value)) (xs:List (List Int)) (c:List Int→Option β) (ys:List (List Int)):Prop :=
 ∀(hs:List Value) (c' : Value→Option β),hs.length=xs.length→(∀i,i < xs.length→c' (hd hs i)=c (ct xs i))→∃hs', f hs c' = some hs' ∧ Sel hs xs hs' ys
noncomputable def G1 {β : Type} (f:List Value→(Value→Option β)→Option (List Value)) (xs:List (List Int)) (c:List Int→Option β):Option (List (List Int)):=open Classical in if h:∃ys,Good1 f xs c ys then some (Classical.choose h)else none
end Go.Proofs.YthmcpmnhdbeahaaGreat.D
namespace Go.Proofs.YthmcpmnhdbeahaaGreat.D
open Go Go.RowKit
section
variable {P:Program} {B Z:Nat→Prop} {w:World} {e e' : TypeId} {k:IntKind} {hdr:Value} {xs:List (List Int)} {F:Nat→Prop} {hs:List Value} {Fs:Nat→Nat→Prop} {r:Ty}
end
end Go.Proofs.YthmcpmnhdbeahaaGreat.D
namespace Go.Proofs.YthmcpmnhdbeahaaGreat.P
open Go Go.RowKit Go.Proofs.YthmcpmnhdbeahaaGreat.D
end Go.Proofs.YthmcpmnhdbeahaaGreat.P
namespace Go.Proofs.YthmcpmnhdbeahaaGreat.P
open Go Go.RowKit Go.Proofs.YthmcpmnhdbeahaaGreat.D
end Go.Proofs.YthmcpmnhdbeahaaGreat.P
namespace Go.Proofs.YthmcpmnhdbeahaaGreat.P
open Go Go.RowKit Go.Proofs.YthmcpmnhdbeahaaGreat.D
end Go.Proofs.YthmcpmnhdbeahaaGreat.P
namespace Go.Proofs.YthmcpmnhdbeahaaGreat.P
open Go Go.RowKit Go.Proofs.YthmcpmnhdbeahaaGreat.D
end Go.Proofs.YthmcpmnhdbeahaaGreat.P
namespace Go.Proofs.YthmcpmnhdbeahaaGreat.R
open Go Go.RowKit Go.Proofs.YthmcpmnhdbeahaaGreat.D
end Go.Proofs.YthmcpmnhdbeahaaGreat.R
namespace Go.Proofs.YthmcpmnhdbeahaaGreat.P
open Go Go.RowKit Go.Proofs.YthmcpmnhdbeahaaGreat.D
end Go.Proofs.YthmcpmnhdbeahaaGreat.P
set_option maxHeartbeats 4000000
set_option maxRecDepth 20000
namespace Go.Proofs.YthmcpmnhdbeahaaGreat.V
open Go.RowKit Go.Proofs.YthmcpmnhdbeahaaGreat.D Go.Proofs.YthmcpmnhdbeahaaGreat.P
def Ll (W:Nat) (x y:List Int):Prop:=∃j:Nat,j < W∧(∀i:Nat,i < j→rd x (i:Int)=rd y (i:Int))∧rd x (j:Int) < rd y (j:Int)
theorem Ll.irrefl {W:Nat} {x:List Int}:¬ Ll W x x:=fun⟨j,_,_,h⟩=>by omega
theorem Ll.trans {W:Nat} {x y z:List Int} (h:Ll W x y) (k:Ll W y z):Ll W x z:=by
 obtain⟨i,i1,i2,i3⟩:=h
 obtain⟨j,j1,j2,j3⟩:=k
 rcases Nat.lt_trichotomy i j with q|q|q
 ·
  exact⟨i,i1,fun t ht=>(i2 t ht).trans (j2 t (by omega)),by rw[←j2 i q];exact i3⟩
 ·
  subst q;exact⟨i,i1,fun t ht=>(i2 t ht).trans (j2 t ht),by omega⟩
 ·
  exact⟨j,j1,fun t ht=>(i2 t (by omega)).trans (j2 t ht),by rw[i2 j q];exact j3⟩
theorem Ll.asymm {W:Nat} {x y:List Int} (h:Ll W x y):¬ Ll W y x:=fun k=>Ll.irrefl (h.trans k)
theorem Ll.tri (W:Nat) (x y:List Int):Ll W x y∨(∀i:Nat,i < W→rd x (i:Int)=rd y (i:Int))∨Ll W y x:=by
 have main:∀k,k≤W→Ll W x y∨(∀i:Nat,i < k→rd x (i:Int)=rd y (i:Int))∨Ll W y x:=by
  intro k
  induction k with
  | zero=>exact fun _ => .inr (.inl fun i hi=>by omega)
  | succ k ih =>
   intro hk
   rcases ih (by omega)with h|h|h
   ·
    exact .inl h
   ·
    rcases Int.lt_trichotomy (rd x (k:Int)) (rd y (k:Int))with q|q|q
    ·
     exact .inl ⟨k,by omega,h,q⟩
    ·
     refine .inr (.inl fun i hi => ?_)
     by_cases e:i=k
     ·
      rw[e];exact q
     ·
      exact h i (by omega)
    ·
     exact .inr (.inr ⟨k,by omega,fun i hi=>(h i hi).symm,q⟩)
   ·
    exact .inr (.inr h)
 exact main W (Nat.le_refl _)
theorem ZgT {W:Nat} {x y:List Int} (hx:x.length=W) (hy:y.length=W) (h:∀i:Nat,i < W→rd x (i:Int)=rd y (i:Int)):x=y :=
 Zji (by omega) fun i i0 i1=>by
  obtain⟨n,rfl⟩:=Int.eq_ofNat_of_zero_le i0
  exact h n (by omega)
theorem Ll.le_trans {W:Nat} {x y z:List Int} (hx:x.length=W) (hy:y.length=W) (hz:z.length=W) (h:¬ Ll W y x) (k:¬ Ll W z y):¬ Ll W z x:=by
 intro q
 rcases Ll.tri W x y with a|a|a
 ·
  rcases Ll.tri W y z with b|b|b
  ·
   exact Ll.asymm q (a.trans b)
  ·
   have:=ZgT hy hz b;subst this;exact Ll.asymm q a
  ·
   exact k b
 ·
  have:=ZgT hx hy a;subst this
  exact k q
 ·
  exact h a
end Go.Proofs.YthmcpmnhdbeahaaGreat.V
namespace Go.Proofs.YthmcpmnhdbeahaaGreat.V
open Go Go.RowKit Go.Proofs.YthmcpmnhdbeahaaGreat.D Go.Proofs.YthmcpmnhdbeahaaGreat.P
end Go.Proofs.YthmcpmnhdbeahaaGreat.V
namespace Go.Proofs.YthmcpmnhdbeahaaGreat.V
open Go Go.RowKit Go.Proofs.YthmcpmnhdbeahaaGreat.D Go.Proofs.YthmcpmnhdbeahaaGreat.P
end Go.Proofs.YthmcpmnhdbeahaaGreat.V
namespace Go.Proofs.YthmcpmnhdbeahaaGreat.V
open Go Go.RowKit Go.Proofs.YthmcpmnhdbeahaaGreat.D Go.Proofs.YthmcpmnhdbeahaaGreat.P
open Go.Sort (swp insInner insOuter insertionSort siftDown heapBuild heapPop heapSort scanUp scanDown partLoop partition partEqLoop partitionEqual scanSorted shiftDown shiftUp partialIns partialInsertionSort reverseLoop reverseRange SWO PermIn SortedIn)
noncomputable instance:Inhabited Value:=⟨Value.slice none 0 0⟩
variable {H:Value→Prop} {lt:Value→Value→Bool} {C:Value→Value→Option Int}
structure Al (H:Value→Prop) (N:Nat) (d:Array Value):Prop where
 sz:d.size=N
 all:∀i,i < N→H d[i]!
theorem w2 {j:Nat} (h:j≤4000000000000000000):wrapI (2*(j:Int))=((2*j:Nat):Int):=by rw[w64 (by omega) (by omega)];omega
end Go.Proofs.YthmcpmnhdbeahaaGreat.V
namespace Go.Proofs.YthmcpmnhdbeahaaGreat.V
open Go Go.RowKit Go.Proofs.YthmcpmnhdbeahaaGreat.D Go.Proofs.YthmcpmnhdbeahaaGreat.P
open Go.Sort (swp insInner insOuter insertionSort siftDown heapBuild heapPop heapSort scanUp scanDown partLoop partition partEqLoop partitionEqual scanSorted shiftDown shiftUp partialIns partialInsertionSort reverseLoop reverseRange SWO PermIn SortedIn)
variable {H:Value→Prop} {lt:Value→Value→Bool} {C:Value→Value→Option Int}
end Go.Proofs.YthmcpmnhdbeahaaGreat.V
namespace Go.Proofs.YthmcpmnhdbeahaaGreat.V
open Go Go.RowKit Go.Proofs.YthmcpmnhdbeahaaGreat.D Go.Proofs.YthmcpmnhdbeahaaGreat.P
open Go.Sort (swp insInner insOuter insertionSort siftDown heapBuild heapPop heapSort scanUp scanDown partLoop partition partEqLoop partitionEqual scanSorted shiftDown shiftUp partialIns partialInsertionSort reverseLoop reverseRange SWO PermIn SortedIn fixDown fixUp)
variable {H:Value→Prop} {lt:Value→Value→Bool} {C:Value→Value→Option Int}
theorem Al.perm {N a b:Nat} {d d' : Array Value} (hd:Al H N d) (hb:b≤N) (h:PermIn a b d d'):Al H N d' where
 sz:=h.1.trans hd.sz
 all:=fun i hi=>by
  by_cases k:a≤i∧i < b
  ·
   exact Go.Sort.permIn_all d d' a b H (by rw[hd.sz];exact hb) h (fun j h1 h2=>hd.all j (by omega)) i k.1 k.2
  ·
   rw[h.2.1 i (by omega)];exact hd.all i hi
end Go.Proofs.YthmcpmnhdbeahaaGreat.V
set_option maxHeartbeats 8000000
namespace Go.Proofs.YthmcpmnhdbeahaaGreat.V
open Go Go.RowKit Go.Proofs.YthmcpmnhdbeahaaGreat.D Go.Proofs.YthmcpmnhdbeahaaGreat.P
open Go.Sort (swp insertionSort heapSort partition partitionEqual partialInsertionSort reverseRange SWO PermIn SortedIn)
variable {H:Value→Prop} {lt:Value→Value→Bool} {C:Value→Value→Option Int}
def Res (lt:Value→Value→Bool) (a b:Nat) (d:Array Value) (X:Option (List Value)):Prop:=∃d', X=some d'.toList∧PermIn a b d d' ∧ SortedIn lt a b d'
theorem Res.tr {a b:Nat} {d d1:Array Value} {X:Option (List Value)} (h:Res lt a b d1 X) (hp:PermIn a b d d1):Res lt a b d X:=by
 obtain⟨d', h1,h2,h3⟩:=h
 exact⟨d', h1,Go.Sort.permIn_trans _ _ _ a b hp h2,h3⟩
end Go.Proofs.YthmcpmnhdbeahaaGreat.V
set_option maxHeartbeats 4000000
namespace Go.Proofs.YthmcpmnhdbeahaaGreat.V
open Go Go.RowKit Go.Proofs.YthmcpmnhdbeahaaGreat.D Go.Proofs.YthmcpmnhdbeahaaGreat.P
def CrP (g:List (List Int)) (m:Int) (u r:List Int) (n:Nat):Prop:=∀x:Int,0≤x→x < n→∀y:Int,0≤y→y < n→T g x y < n→rd r (T g x y)=(rd r x+rd u x*rd r y)%m
theorem CrP.pre {g:List (List Int)} {m:Int} {u r r' : List Int} {n n' : Nat} (h:CrP g m u r n) (hn:n' ≤ n) (hg:Grp g) (hN:n≤g.length) (he:∀i:Int,0≤i→i < n' → rd r' i=rd r i):CrP g m u r' n' := by
 intro x x0 x1 y y0 y1 ht
 have e:=h x x0 (by omega) y y0 (by omega) (by omega)
 obtain⟨t0,_⟩:=hg.ent x y x0 (by omega) y0 (by omega)
 rw[he x x0 x1,he y y0 y1,he _ t0 ht]
 exact e
end Go.Proofs.YthmcpmnhdbeahaaGreat.V
namespace Go.Proofs.YthmcpmnhdbeahaaGreat.V
open Go Go.RowKit Go.Proofs.YthmcpmnhdbeahaaGreat.D Go.Proofs.YthmcpmnhdbeahaaGreat.P
end Go.Proofs.YthmcpmnhdbeahaaGreat.V
namespace Go.Proofs.YthmcpmnhdbeahaaGreat.V
open Go Go.RowKit Go.Proofs.YthmcpmnhdbeahaaGreat.D Go.Proofs.YthmcpmnhdbeahaaGreat.P
structure Src (c:List Int) (i:Int):Prop where
 ent:∀x∈c,0≤x∧x≤255
 len:c.length≤4096
 i0:0≤i
 i1:i≤c.length
theorem wrU {x:Int} (h0:0≤x) (h1:x < 18446744073709551616):wr .u64 x=x:=by
 show hid _=_
 rw[ZcW]
 simp[IntKind.wrap,IntKind.bits,IntKind.signed]
 omega
theorem andB (x:Int) {m:Int} (m0:0≤m) (hm:m < 18446744073709551616):∃o:Int,andI .u64 x m=o∧0≤o∧o≤m:=by
 obtain⟨M,rfl⟩:=Int.eq_ofNat_of_zero_le m0
 have hlt:(BitVec.ofInt 64 x &&& BitVec.ofInt 64 (M:Int)).toNat≤M:=by
  rw[BitVec.toNat_and]
  refine Nat.le_trans Nat.and_le_right ?_
  rw[BitVec.toNat_ofInt]
  omega
 refine⟨((BitVec.ofInt 64 x &&& BitVec.ofInt 64 (M:Int)).toNat:Nat),?_,by omega,by omega⟩
 show hid _=_
 rw[ZcW]
 show wr .u64 (((BitVec.ofInt 64 x &&& BitVec.ofInt 64 (M:Int)).toNat:Nat):Int)=_
 exact wrU (by omega) (by omega)
theorem From_ {c:List Int} (hc:∀x∈c,0≤x∧x≤255) (hl:c.length≤4096):∃h,ZaN.f c=some (c,0,h)∧Src c 0:=by
 have main:∀(n k:Nat) (h:Int),k+n=c.length→∃h', ZaN.l0 c (k:Int) c 0 h=some (c,0,h'):=by
  intro n
  induction n with
  | zero =>
   intro k h hk
   exact⟨h,by rw[ZaN.l0_eq,if_neg (by omega)]⟩
  | succ n ih =>
   intro k h hk
   obtain⟨h', e⟩:=ih (k+1) (wr .u64 ((wr .u64 ((wr .u64 (h*1099511628211))+(wr .u64 (rd c (k:Int)))))+197)) (by omega)
   refine⟨h', ?_⟩
   rw[ZaN.l0_eq,if_pos (by omega),if_pos (by omega),if_pos (by omega),if_pos (by omega),wn (j:=k) (by omega)]
   exact e
 obtain⟨h,e⟩:=main c.length 0 (wr .u64 (13631+(wr .u64 (c.length:Int)))) (by omega)
 exact⟨h,by rw[ZaN.f_eq];exact e,hc,hl,by omega,by omega⟩
theorem Next_ {c:List Int} {i:Int} (h:Src c i) (hh n:Int) (hn:n≤4611686018427387904):∃x j h', ZK.f c i hh n=some (x,c,j,h')∧Src c j∧0≤x∧(1≤n→x < n)∧(n < 1→x=0):=by
 have hl:=h.len
 rw[ZK.f_eq]
 by_cases h1:n < 1
 ·
  rw[if_pos h1]
  exact⟨0,i,hh,rfl,h,by omega,fun q=>by omega,fun _=>rfl⟩
 rw[if_neg h1]
 obtain⟨o,ho,o0,o1⟩:=andB (shrI .u64 (wr .u64 ((wr .u64 (hh*6364136223846793005))+1442695040888963407)) 33) (m:=16777215) (by omega) (by omega)
 rw[ho,w64 (x:=o) (by omega) (by omega)]
 by_cases h2:i < (c.length:Int)
 ·
  obtain⟨a0,a1⟩:=h.ent _ (ZcM h.i0 h2)
  have i0:=h.i0
  rw[if_pos h2,if_pos h.i0,if_pos h2,if_neg (by omega),w64 (x:=rd c i) (by omega) (by omega),w64 (x:=o+rd c i) (by omega) (by omega),w64 (x:=i+1) (by omega) (by omega),ZbW (show 0≤o+rd c i by omega)]
  exact⟨_,_,_,rfl,⟨h.ent,h.len,by omega,by omega⟩,Int.emod_nonneg _ (by omega),fun _=>Int.emod_lt_of_pos _ (by omega),fun q=>by omega⟩
 ·
  rw[if_neg h2,if_neg (by omega),ZbW o0]
  exact⟨_,_,_,rfl,h,Int.emod_nonneg _ (by omega),fun _=>Int.emod_lt_of_pos _ (by omega),fun q=>by omega⟩
theorem Pick_ {c:List Int} {i:Int} (h:Src c i) (hh:Int) (L:List Int) (h0:0 < L.length) (h1:L.length≤1000):∃x j h', ZaE.f c i hh L=some (x,c,j,h')∧Src c j∧x∈L:=by
 obtain⟨x,j,h', e,s,x0,x1,_⟩:=Next_ h hh (L.length:Int) (by omega)
 have x1:=x1 (by omega)
 exact⟨rd L x,j,h', by rw[ZaE.f_eq,e,Option.bind_some,if_pos x0,if_pos x1],s,ZcM x0 x1⟩
structure OrdL (n:Nat) (p:List Int):Prop where
 len:p.length=n
 ent:∀x∈p,0≤x∧x < n
 nd:p.Nodup
theorem OrdL.ordr {n:Nat} {p:List Int} (h:OrdL n p):Ordr n p where
 len:=h.len
 ent:=fun i hi=>h.ent _ (ZcM (by omega) (by rw[h.len];omega))
 inj:=fun i j hi hj e=>by
  rw[Zb3 (by rw[h.len];exact hi),Zb3 (by rw[h.len];exact hj)]at e
  have hi' : i < p.length:=by rw[h.len];exact hi
  have hj' : j < p.length:=by rw[h.len];exact hj
  exact(List.getElem?_inj hi' h.nd).1 (by rw[List.getElem?_eq_getElem hi', List.getElem?_eq_getElem hj', e])
theorem ZlD {c:List Int} {i:Int} (h:Src c i) (hh:Int) {n:Nat} (hn:n≤100):∃p j h', ZO.f c i hh (n:Int)=some (p,c,j,h')∧Src c j∧OrdL n p:=by
 have main:∀(m k:Nat) (p:List Int) (i hh:Int),k+m=n→Src c i→OrdL k p→∃p' j h', ZO.l0 (n:Int) p (k:Int) c i hh=some (p', c,j,h')∧Src c j∧OrdL n p' := by
  intro m
  induction m with
  | zero =>
   intro k p i hh hk hs hp
   exact⟨p,i,hh,by rw[ZO.l0_eq,if_neg (by omega)],hs,by rw[←show k=n by omega];exact hp⟩
  | succ m ih =>
   intro k p i hh hk hs hp
   have pl:=hp.len
   obtain⟨x,j,h', e,s,x0,x1,_⟩:=Next_ hs hh ((k:Int)+1) (by omega)
   have x1:=x1 (by omega)
   have ho:=Own_ (p.take x.toNat) (by rw[List.length_take];omega)
   have hperm:((p.take x.toNat++[(k:Int)])++p.drop x.toNat).Perm ((k:Int) :: p):=by
    have:=(List.perm_middle (a:=(k:Int)) (l₁ := p.take x.toNat) (l₂ := p.drop x.toNat))
    rw[List.take_append_drop]at this
    simpa using this
   have hp' : OrdL (k+1) ((p.take x.toNat++[(k:Int)])++p.drop x.toNat):=by
    refine⟨by rw[hperm.length_eq,List.length_cons,pl],fun y hy => ?_,hperm.nodup_iff.2 (List.nodup_cons.2 ⟨fun q => ?_,hp.nd⟩)⟩
    ·
     rcases List.mem_cons.1 (hperm.mem_iff.1 hy)with rfl|q
     ·
      omega
     ·
      have:=hp.ent y q;omega
    ·
     have:=hp.ent _ q;omega
   obtain⟨p', j', h2,e2,s2,o2⟩:=ih (k+1) _ j h' (by omega) s hp'
   refine⟨p', j', h2,?_,s2,o2⟩
   have tl:(p.take x.toNat).length≤k:=by rw[List.length_take];omega
   have dl:(p.drop x.toNat).length≤k:=by rw[List.length_drop];omega
   have l1:([(k:Int)]:List Int).length=1:=rfl
   rw[ZO.l0_eq,if_pos (by omega),w64 (x:=(k:Int)+1) (by omega) (by omega),e]
   dsimp only[Option.bind_some]
   rw[if_pos x0,if_pos (by omega),ho]
   dsimp only[Option.bind_some]
   rw[if_pos (by rw[l1];omega),if_pos x0,if_pos (by omega),if_pos (by rw[List.length_append,l1];omega)]
   exact e2
 obtain⟨p,j,h', e,s,o⟩:=main n 0 [] i hh (by omega) h ⟨rfl,fun x hx=>(by cases hx),List.nodup_nil⟩
 exact⟨p,j,h', by rw[ZO.f_eq];exact e,s,o⟩
theorem ZgK {c:List Int} {i:Int} (h:Src c i) (hh:Int) {n:Nat} (n1:1≤n) (hn:n≤100):∃p j h', Zy.f c i hh (n:Int)=some (p,c,j,h')∧Src c j∧OrdL n p∧rd p 0=0:=by
 obtain⟨p,j,h', e,s,o⟩:=ZlD h hh (n:=n - 1) (by omega)
 have pl:=o.len
 have hw:wrapI ((n:Int) - 1)=((n - 1:Nat):Int):=by rw[w64 (by omega) (by omega)];omega
 have main:=up p.length (fun k=>Zy.l0 p (k:Int) c j h' (0 :: (p.take k).map (· + 1))) (fun k hk=>by
  have l1:(0 :: (p.take k).map (· + 1):List Int).length=k+1:=by rw[List.length_cons,List.length_map,List.length_take];omega
  have l2:∀x:Int,([x]:List Int).length=1:=fun _=>rfl
  obtain⟨a0,a1⟩:=o.ent _ (ZcM (xs:=p) (i:=(k:Int)) (by omega) (by omega))
  rw[Zcx hk,List.map_append,List.map_singleton,←List.cons_append,Zy.l0_eq,w64 (x:=rd p (k:Int)+1) (by omega) (by omega),l1,l2,wn (j:=k) (by omega)]
  ((with_reducible repeat (first|refine Zj (by first|assumption|omega|rfl|exact B_pos (by omega)) ?_|refine Zi (by first|assumption|omega|decide|exact B_not (by omega)) ?_|refine Za (by first|assumption) ?_|dsimp only));first|done|(with_reducible rfl)|simp (disch:=omega) only[w64]|(show False;done)))
 simp only[Int.natCast_zero,List.take_zero,List.map_nil,List.take_length]at main
 refine⟨0 :: p.map (· + 1),j,h', ?_,s,⟨by rw[List.length_cons,List.length_map];omega,fun x hx => ?_,List.nodup_cons.2 ⟨fun q => ?_,?_⟩⟩,rfl⟩
 ·
  rw[Zy.f_eq,hw,e]
  show Zy.l0 p 0 c j h' [0]=_
  rw[main,Zy.l0_eq,if_neg (by omega)]
 ·
  rcases List.mem_cons.1 hx with rfl|q
  ·
   omega
  ·
   obtain⟨y,hy,rfl⟩:=List.mem_map.1 q
   have:=o.ent y hy
   omega
 ·
  obtain⟨y,hy,q⟩:=List.mem_map.1 q
  have:=o.ent y hy
  omega
 ·
  rw[List.Nodup,List.pairwise_map]
  exact List.Pairwise.imp (fun {a b} h q=>h (by omega)) o.nd
end Go.Proofs.YthmcpmnhdbeahaaGreat.V
namespace Go.Proofs.YthmcpmnhdbeahaaGreat.V
open Go Go.RowKit Go.Proofs.YthmcpmnhdbeahaaGreat.D Go.Proofs.YthmcpmnhdbeahaaGreat.P
def setsL {α : Type} (p:List Int) (v:Nat → α):Nat→List α → List α
 | 0,r=>r
 | k+1,r=>(setsL p v k r).set (rd p (k:Int)).toNat (v k)
theorem Zc1 {α : Type} (p:List Int) (v:Nat → α) (r:List α):∀k,(setsL p v k r).length=r.length
 | 0=>rfl
 | k+1=>by rw[setsL,List.length_set,Zc1 p v r k]
theorem ZfI {α : Type} {n:Nat} {p:List Int} (hp:Ordr n p) (v:Nat → α) {r:List α} (hr:r.length=n) {i:Nat} (hi:i < n):∀k,k≤n→(setsL p v k r)[(rd p (i:Int)).toNat]? = if i < k then some (v i)else r[(rd p (i:Int)).toNat]? := by
 intro k
 induction k with
 | zero=>intro _;rw[if_neg (by omega)];rfl
 | succ k ih =>
  intro hk
  have ih:=ih (by omega)
  obtain⟨a0,a1⟩:=hp.ent i hi
  obtain⟨b0,b1⟩:=hp.ent k (by omega)
  by_cases q:i=k
  ·
   subst q
   rw[if_pos (by omega),setsL,List.getElem?_set_self (by rw[Zc1];omega)]
  ·
   have hne:(rd p (k:Int)).toNat≠(rd p (i:Int)).toNat:=fun e=>q (hp.inj i k hi (by omega) (by omega))
   rw[setsL,List.getElem?_set_ne hne,ih]
   by_cases q2:i < k
   ·
    rw[if_pos q2,if_pos (by omega)]
   ·
    rw[if_neg q2,if_neg (by omega)]
theorem rd_get? {xs:List Int} {i:Nat} {x:Int} (h:xs[i]? = some x):rd xs (i:Int)=x:=by
 rw[ZlX,List.getD_eq_getElem?_getD,h];rfl
theorem row_get? {g:List (List Int)} {i:Nat} {r:List Int} (h:g[i]? = some r):row g (i:Int)=r:=by
 simp[row,List.getD_eq_getElem?_getD,h]
def renR (g:List (List Int)) (p:List Int) (a:Nat):List Int:=setsL p (fun b=>rd p (T g (a:Int) (b:Int))) g.length (row g (rd p (a:Int)))
def ren (g:List (List Int)) (p:List Int):List (List Int):=setsL p (renR g p) g.length g
theorem ZjW {g:List (List Int)} (hg:Grp g) {p:List Int} (hp:Ordr g.length p) (h0:rd p 0=0):Grp (ren g p):=by
 have hen:∀a:Nat,a < g.length→(row g (rd p (a:Int))).length=g.length:=fun a ha=>by
  obtain⟨a0,a1⟩:=hp.ent a ha
  have:=hg.row _ a0 a1
  omega
 have hrow:∀a:Nat,a < g.length→row (ren g p) (rd p (a:Int))=renR g p a:=fun a ha=>by
  obtain⟨a0,a1⟩:=hp.ent a ha
  have:=ZfI hp (renR g p) (r:=g) rfl ha g.length (Nat.le_refl _)
  rw[if_pos ha]at this
  have:=row_get? this
  rwa[Int.toNat_of_nonneg a0]at this
 refine Zjp hg hp h0 (Zc1 ..) (fun a ha => ?_) fun a b ha hb => ?_
 ·
  obtain⟨i,hi,e⟩:=hp.onto (k:=(a:Int)) (by omega) (by omega)
  rw[←e,hrow i hi,renR,Zc1,hen i hi]
 ·
  obtain⟨b0,b1⟩:=hp.ent b hb
  have:=ZfI hp (fun b=>rd p (T g (a:Int) (b:Int))) (hen a ha) hb g.length (Nat.le_refl _)
  rw[if_pos hb]at this
  have:=rd_get? this
  rw[Int.toNat_of_nonneg b0]at this
  show rd (row (ren g p) _) _=_
  rw[hrow a ha]
  exact this
theorem Copy_ (g:List (List Int)) (hl:g.length≤1000000) (hr:∀r∈g,r.length≤1048576):Zaz.f g=some g:=by
 have l1:∀x:List Int,([x]:List (List Int)).length=1:=fun _=>rfl
 have main:=up g.length (fun k=>Zaz.l0 (k:Int) g (g.take k)) (fun k hk=>by
  have ho:=Own_ (row g (k:Int)) (hr _ (Zgy (by omega) (by omega)))
  have hlen:(g.take k).length=k:=by rw[List.length_take];omega
  have ht:g.take (k+1)=g.take k++[row g (k:Int)]:=by rw[List.take_succ_eq_append_getElem hk,ZdG hk]
  rw[ht,Zaz.l0_eq,ho,Option.bind_some,hlen,l1,wn (j:=k) (by omega)]
  ((with_reducible repeat (first|refine Zj (by first|assumption|omega|rfl|exact B_pos (by omega)) ?_|refine Zi (by first|assumption|omega|decide|exact B_not (by omega)) ?_|refine Za (by first|assumption) ?_|dsimp only));first|done|(with_reducible rfl)|simp (disch:=omega) only[w64]|(show False;done)))
 simp only[Int.natCast_zero,List.take_zero,List.take_length]at main
 rw[Zaz.f_eq,main,Zaz.l0_eq,if_neg (by omega)]
theorem Zfl {g:List (List Int)} (hg:Grp g):∀r∈g,r.length≤8:=fun r hr=>by
 obtain⟨i,i0,i1,rfl⟩:=ZjC hr
 have:=hg.row i i0 i1
 have:=hg.n8
 omega
theorem Ze8 {g:List (List Int)} (hg:Grp g) {p:List Int} (hp:Ordr g.length p):Zl.f g p=some (ren g p):=by
 have n8:=hg.n8
 have pl:=hp.len
 have hc:=Copy_ g (by omega) (fun r hr=>by have:=Zfl hg r hr;omega)
 have main:=up g.length (fun a=>Zl.l0 p (a:Int) g (setsL p (renR g p) a g)) (fun a ha=>by
  obtain⟨pa0,pa1⟩:=hp.ent a ha
  have gl:(setsL p (renR g p) a g).length=g.length:=Zc1 ..
  have hrow:row (setsL p (renR g p) a g) (rd p (a:Int))=row g (rd p (a:Int)):=by
   have h1:=ZfI hp (renR g p) (r:=g) rfl ha a (by omega)
   rw[if_neg (by omega)]at h1
   obtain⟨q,hq⟩:=Int.eq_ofNat_of_zero_le pa0
   rw[hq]at h1 ⊢
   have hq' : q < g.length:=by omega
   rw[Int.toNat_natCast,List.getElem?_eq_getElem hq']at h1
   rw[row_get? h1,ZdG hq']
  have rl:=hg.row _ pa0 (by omega)
  have ra:=hg.row (a:Int) (by omega) (by omega)
  have inner:=up g.length (fun b=>Zl.l1 p (a:Int) (b:Int) g (setsL p (fun b=>rd p (T g (a:Int) (b:Int))) b (row g (rd p (a:Int)))) (setsL p (renR g p) a g) (rd p (a:Int))) (fun b hb=>by
   obtain⟨pb0,pb1⟩:=hp.ent b hb
   obtain⟨t0,t1⟩:=hg.ent (a:Int) (b:Int) (by omega) (by omega) (by omega) (by omega)
   have sl:(setsL p (fun b=>rd p (T g (a:Int) (b:Int))) b (row g (rd p (a:Int)))).length=(row g (rd p (a:Int))).length:=Zc1 ..
   show Zl.l1 p (a:Int) (b:Int) g _ _ _=Zl.l1 p (a:Int) ((b+1:Nat):Int) g ((setsL p (fun b=>rd p (T g (a:Int) (b:Int))) b (row g (rd p (a:Int)))).set (rd p (b:Int)).toNat (rd p (T g (a:Int) (b:Int)))) _ _
   rw[Zl.l1_eq,ZX.f_eq,Option.bind_some,sl,wn (j:=b) (by omega)]
   ((with_reducible repeat (first|refine Zj (by first|assumption|omega|rfl|exact B_pos (by omega)) ?_|refine Zi (by first|assumption|omega|decide|exact B_not (by omega)) ?_|refine Za (by first|assumption) ?_|dsimp only));first|done|(with_reducible rfl)|simp (disch:=omega) only[w64]|(show False;done)))
  simp only[Int.natCast_zero,setsL]at inner
  rw[Zl.l0_eq,ZX.f_eq,Option.bind_some,gl,hrow,inner,Zl.l1_eq,ZX.f_eq,Option.bind_some,wn (j:=a) (by omega)]
  (with_reducible repeat (first|refine Zj (by first|assumption|omega|rfl|exact B_pos (by omega)) ?_|refine Zi (by first|assumption|omega|decide|exact B_not (by omega)) ?_|refine Za (by first|assumption) ?_|dsimp only))
  rfl)
 simp only[Int.natCast_zero,setsL]at main
 rw[Zl.f_eq,hc,Option.bind_some,main,Zl.l0_eq,ZX.f_eq,Option.bind_some,if_neg (by omega)]
 rfl
theorem bld {α : Type} (f:Nat → α) (k:Nat):(List.range (k+1)).map f=(List.range k).map f++[f k]:=by rw[List.range_succ,List.map_append,List.map_singleton]
theorem Zf7 {n:Nat} (n1:1≤n) (n8:n≤8):ZI.f (n:Int)=some (cyc n):=by
 have l1:∀x:Int,([x]:List Int).length=1:=fun _=>rfl
 have l2:∀x:List Int,([x]:List (List Int)).length=1:=fun _=>rfl
 have main:=up n (fun a=>ZI.l0 (n:Int) (a:Int) ((List.range a).map fun a:Nat=>(List.range n).map fun b:Nat=>((a:Int)+(b:Int))%(n:Int))) (fun a ha=>by
  have inner:=up n (fun b=>ZI.l1 (n:Int) (a:Int) (b:Int) ((List.range b).map fun b:Nat=>((a:Int)+(b:Int))%(n:Int)) ((List.range a).map fun a:Nat=>(List.range n).map fun b:Nat=>((a:Int)+(b:Int))%(n:Int))) (fun b hb=>by
   have e:((List.range b).map fun b:Nat=>((a:Int)+(b:Int))%(n:Int)).length=b:=by simp
   rw[bld,ZI.l1_eq,e,l1,w64 (x:=(a:Int)+(b:Int)) (by omega) (by omega),ZbW (show 0≤(a:Int)+(b:Int)by omega),wn (j:=b) (by omega)]
   ((with_reducible repeat (first|refine Zj (by first|assumption|omega|rfl|exact B_pos (by omega)) ?_|refine Zi (by first|assumption|omega|decide|exact B_not (by omega)) ?_|refine Za (by first|assumption) ?_|dsimp only));first|done|(with_reducible rfl)|simp (disch:=omega) only[w64]|(show False;done)))
  simp only[Int.natCast_zero,List.range_zero,List.map_nil]at inner
  have e:((List.range a).map fun a:Nat=>(List.range n).map fun b:Nat=>((a:Int)+(b:Int))%(n:Int)).length=a:=by simp
  rw[bld,ZI.l0_eq,if_pos (by omega),inner,ZI.l1_eq,e,l2,wn (j:=a) (by omega)]
  ((with_reducible repeat (first|refine Zj (by first|assumption|omega|rfl|exact B_pos (by omega)) ?_|refine Zi (by first|assumption|omega|decide|exact B_not (by omega)) ?_|refine Za (by first|assumption) ?_|dsimp only));first|done|(with_reducible rfl)|simp (disch:=omega) only[w64]|(show False;done)))
 simp only[Int.natCast_zero,List.range_zero,List.map_nil]at main
 rw[ZI.f_eq,main,ZI.l0_eq,if_neg (by omega)]
 rfl
theorem Zf8 {g h:List (List Int)} (hg:Grp g) (hh:Grp h):ZE.f g h=some (prd g h):=by
 have l1:∀x:Int,([x]:List Int).length=1:=fun _=>rfl
 have l2:∀x:List Int,([x]:List (List Int)).length=1:=fun _=>rfl
 have g8:=hg.n8;have h8:=hh.n8;have h1:=hh.n1
 obtain⟨N,hN⟩:∃N,N=g.length*h.length:=⟨_,rfl⟩
 have N64:N≤64:=by rw[hN];exact Nat.mul_le_mul g8 h8
 have hw:wrapI ((g.length:Int)*(h.length:Int))=(N:Int):=by rw[hN,Int.natCast_mul,w64] <;> rw[←Int.natCast_mul,←hN] <;> omega
 have parts:∀x:Nat,x < N→(0≤(x:Int) / (h.length:Int)∧(x:Int) / (h.length:Int) < g.length)∧0≤(x:Int)%(h.length:Int)∧(x:Int)%(h.length:Int) < h.length∧wrapI ((x:Int).tdiv (h.length:Int))=(x:Int) / (h.length:Int)∧(x:Int).tmod (h.length:Int)=(x:Int)%(h.length:Int):=fun x hx=>by
  have e1:(x:Int) / (h.length:Int) < g.length:=Int.ediv_lt_of_lt_mul (by omega) (by rw[←Int.natCast_mul,←hN];omega)
  have e0:0≤(x:Int) / (h.length:Int):=Int.ediv_nonneg (by omega) (by omega)
  exact⟨⟨e0,e1⟩,Int.emod_nonneg _ (by omega),Int.emod_lt_of_pos _ (by omega),by rw[ZeE (by omega),w64 (by omega) (by omega)],ZbW (by omega)⟩
 have main:=up N (fun a=>ZE.l0 (h.length:Int) (a:Int) g h ((List.range a).map fun x:Nat=>(List.range N).map fun y:Nat=>(h.length:Int)*T g ((x:Int) / (h.length:Int)) ((y:Int) / (h.length:Int))+T h ((x:Int)%(h.length:Int)) ((y:Int)%(h.length:Int)))) (fun a ha=>by
  obtain⟨⟨a0,a1⟩,a2,a3,a4,a5⟩:=parts a ha
  have ra:=hg.row _ a0 a1
  have rb:=hh.row _ a2 a3
  have inner:=up N (fun b=>ZE.l1 (h.length:Int) (a:Int) (b:Int) g h ((List.range b).map fun y:Nat=>(h.length:Int)*T g ((a:Int) / (h.length:Int)) ((y:Int) / (h.length:Int))+T h ((a:Int)%(h.length:Int)) ((y:Int)%(h.length:Int))) ((List.range a).map fun x:Nat=>(List.range N).map fun y:Nat=>(h.length:Int)*T g ((x:Int) / (h.length:Int)) ((y:Int) / (h.length:Int))+T h ((x:Int)%(h.length:Int)) ((y:Int)%(h.length:Int)))) (fun b hb=>by
   obtain⟨⟨b0,b1⟩,b2,b3,b4,b5⟩:=parts b hb
   obtain⟨t0,t1⟩:=hg.ent _ _ a0 a1 b0 b1
   obtain⟨s0,s1⟩:=hh.ent _ _ a2 a3 b2 b3
   have e:((List.range b).map fun y:Nat=>(h.length:Int)*T g ((a:Int) / (h.length:Int)) ((y:Int) / (h.length:Int))+T h ((a:Int)%(h.length:Int)) ((y:Int)%(h.length:Int))).length=b:=by simp
   have p0:0≤(h.length:Int)*T g ((a:Int) / (h.length:Int)) ((b:Int) / (h.length:Int)):=Int.mul_nonneg (by omega) t0
   have p1:(h.length:Int)*T g ((a:Int) / (h.length:Int)) ((b:Int) / (h.length:Int))≤8*8:=Int.mul_le_mul (by omega) (by omega) t0 (by omega)
   rw[bld,ZE.l1_eq,ZX.f_eq,Option.bind_some,hw,e,l1,a4,a5,b4,b5,wn (j:=b) (by omega),w64 (x:=(h.length:Int)*T g ((a:Int) / (h.length:Int)) ((b:Int) / (h.length:Int))) (by omega) (by omega),w64 (x:=(h.length:Int)*T g ((a:Int) / (h.length:Int)) ((b:Int) / (h.length:Int))+T h ((a:Int)%(h.length:Int)) ((b:Int)%(h.length:Int))) (by omega) (by omega)]
   clear a4 b4 a5 b5 hw
   ((with_reducible repeat (first|refine Zj (by first|assumption|omega|rfl|exact B_pos (by omega)) ?_|refine Zi (by first|assumption|omega|decide|exact B_not (by omega)) ?_|refine Za (by first|assumption) ?_|dsimp only));first|done|(with_reducible rfl)|simp (disch:=omega) only[w64]|(show False;done)))
  simp only[Int.natCast_zero,List.range_zero,List.map_nil]at inner
  have e:((List.range a).map fun x:Nat=>(List.range N).map fun y:Nat=>(h.length:Int)*T g ((x:Int) / (h.length:Int)) ((y:Int) / (h.length:Int))+T h ((x:Int)%(h.length:Int)) ((y:Int)%(h.length:Int))).length=a:=by simp
  rw[bld,ZE.l0_eq,ZX.f_eq,Option.bind_some,hw,if_pos (by omega),inner,ZE.l1_eq,ZX.f_eq,Option.bind_some,hw,e,l2,wn (j:=a) (by omega)]
  clear a4 a5 hw
  ((with_reducible repeat (first|refine Zj (by first|assumption|omega|rfl|exact B_pos (by omega)) ?_|refine Zi (by first|assumption|omega|decide|exact B_not (by omega)) ?_|refine Za (by first|assumption) ?_|dsimp only));first|done|(with_reducible rfl)|simp (disch:=omega) only[w64]|(show False;done)))
 simp only[Int.natCast_zero,List.range_zero,List.map_nil]at main
 rw[ZE.f_eq,ZX.f_eq,Option.bind_some,main,ZE.l0_eq,ZX.f_eq,Option.bind_some,hw,if_neg (by omega),hN]
 rfl
theorem Zf9 {n:Nat} (n1:1≤n) (n8:n≤8) {more:Int} (m0:0≤more) (m8:more≤8):Zu.f (n:Int) more=some (twd n more):=by
 have l1:∀x:Int,([x]:List Int).length=1:=fun _=>rfl
 have l2:∀x:List Int,([x]:List (List Int)).length=1:=fun _=>rfl
 have hw:wrapI (2*(n:Int))=((2*n:Nat):Int):=by rw[w64 (by omega) (by omega)];omega
 obtain⟨F,hF⟩:∃F:Nat→Nat→Int,F=fun(a b:Nat)=>(n:Int)*(((a:Int) / n+(b:Int) / n)%2)+((if(b:Int) / n=1 then(b:Int)%n - (a:Int)%n else(a:Int)%n+(b:Int)%n)+more*((a:Int) / n)*((b:Int) / n))%(n:Int):=⟨_,rfl⟩
 have parts:∀x:Nat,x < 2*n→(0≤(x:Int) / (n:Int)∧(x:Int) / (n:Int)≤1)∧0≤(x:Int)%(n:Int)∧(x:Int)%(n:Int) < n∧wrapI ((x:Int).tdiv (n:Int))=(x:Int) / (n:Int)∧(x:Int).tmod (n:Int)=(x:Int)%(n:Int):=fun x hx=>by
  have e1:(x:Int) / (n:Int) < 2:=Int.ediv_lt_of_lt_mul (by omega) (by omega)
  have e0:0≤(x:Int) / (n:Int):=Int.ediv_nonneg (by omega) (by omega)
  exact⟨⟨e0,by omega⟩,Int.emod_nonneg _ (by omega),Int.emod_lt_of_pos _ (by omega),by rw[ZeE (by omega),w64 (by omega) (by omega)],ZbW (by omega)⟩
 have cell:∀(a b:Nat),a < 2*n→b < 2*n→∀(r2:List Int) (r3:List (List Int)),r2.length=b→Zu.l1 (n:Int) more (a:Int) (b:Int) r2 r3=Zu.l1 (n:Int) more (a:Int) ((b+1:Nat):Int) (r2++[F a b]) r3:=fun a b ha hb r2 r3 hr=>by
  obtain⟨⟨a0,a1⟩,a2,a3,a4,a5⟩:=parts a ha
  obtain⟨⟨b0,b1⟩,b2,b3,b4,b5⟩:=parts b hb
  have hFab:F a b=(n:Int)*(((a:Int) / n+(b:Int) / n)%2)+((if(b:Int) / n=1 then(b:Int)%n - (a:Int)%n else(a:Int)%n+(b:Int)%n)+more*((a:Int) / n)*((b:Int) / n))%(n:Int):=by rw[hF]
  rw[hFab,Zu.l1_eq,hw,a4,b4,a5,b5,hr,wn (j:=b) (by omega)]
  clear a4 b4 a5 b5 hw hFab
  generalize (a:Int) / (n:Int)=A at *
  generalize (b:Int) / (n:Int)=B at *
  generalize (a:Int)%(n:Int)=y at *
  generalize (b:Int)%(n:Int)=w at *
  have p0:0≤more*A:=Int.mul_nonneg m0 a0
  have p1:more*A≤8*1:=Int.mul_le_mul m8 a1 a0 (by omega)
  have q0:0≤more*A*B:=Int.mul_nonneg p0 b0
  have q1:more*A*B≤8*1:=Int.mul_le_mul (by omega) b1 b0 (by omega)
  have r0:=Int.emod_nonneg (A+B) (show(2:Int)≠0 by omega)
  have r1:=Int.emod_lt_of_pos (A+B) (show(0:Int) < 2 by omega)
  have s0:0≤(n:Int)*((A+B)%2):=Int.mul_nonneg (by omega) r0
  have s1:(n:Int)*((A+B)%2)≤8*1:=Int.mul_le_mul (by omega) (by omega) r0 (by omega)
  rw[w64 (x:=more*A) (by omega) (by omega),w64 (x:=more*A*B) (by omega) (by omega),w64 (x:=A+B) (by omega) (by omega),ZbW (show 0≤A+B by omega),w64 (x:=(n:Int)*((A+B)%2)) (by omega) (by omega),w64 (x:=w - y) (by omega) (by omega),w64 (x:=y+w) (by omega) (by omega),w64 (x:=w - y+more*A*B) (by omega) (by omega),w64 (x:=y+w+more*A*B) (by omega) (by omega)]
  have hn:¬ (n:Int)=0:=by omega
  rw[if_pos (by omega),if_neg hn,if_neg hn,if_neg hn,if_neg hn]
  by_cases hB:B=1
  ·
   have u0:=Int.emod_nonneg (w - y+more*A*B) hn
   have u1:=Int.emod_lt_of_pos (w - y+more*A*B) (show(0:Int) < n by omega)
   rw[if_pos hB,if_pos hB,Mod_ (by omega) (by omega) (by omega) (by omega),Option.bind_some,if_pos (by rw[l1];omega),w64 (x:=(n:Int)*((A+B)%2)+(w - y+more*A*B)%(n:Int)) (by omega) (by omega)]
  ·
   have u0:=Int.emod_nonneg (y+w+more*A*B) hn
   have u1:=Int.emod_lt_of_pos (y+w+more*A*B) (show(0:Int) < n by omega)
   rw[if_neg hB,if_neg hB,Mod_ (by omega) (by omega) (by omega) (by omega),Option.bind_some,if_pos (by rw[l1];omega),w64 (x:=(n:Int)*((A+B)%2)+(y+w+more*A*B)%(n:Int)) (by omega) (by omega)]
 have main:=up (2*n) (fun a=>Zu.l0 (n:Int) more (a:Int) ((List.range a).map fun a:Nat=>(List.range (2*n)).map fun b:Nat=>F a b)) (fun a ha=>by
  have inner:=up (2*n) (fun b=>Zu.l1 (n:Int) more (a:Int) (b:Int) ((List.range b).map fun b:Nat=>F a b) ((List.range a).map fun a:Nat=>(List.range (2*n)).map fun b:Nat=>F a b)) (fun b hb=>by
   rw[bld]
   exact cell a b ha hb _ _ (by simp))
  simp only[Int.natCast_zero,List.range_zero,List.map_nil]at inner
  have e:((List.range a).map fun a:Nat=>(List.range (2*n)).map fun b:Nat=>F a b).length=a:=by simp
  rw[bld,Zu.l0_eq,hw,if_pos (by omega),inner,Zu.l1_eq,hw,e,l2,wn (j:=a) (by omega),if_neg (by omega),if_pos (by omega)])
 simp only[Int.natCast_zero,List.range_zero,List.map_nil]at main
 rw[Zu.f_eq,main,Zu.l0_eq,hw,if_neg (by omega),hF]
 rfl
theorem wrB {x:Int} (h0:0≤x) (h1:x < 256):wr .u8 x=x:=by
 show hid _=_
 rw[ZcW]
 simp[IntKind.wrap,IntKind.bits,IntKind.signed]
 omega
theorem Zk5 {d:Nat} (d1:1≤d) (d8:d≤8) {s:ByteArray} (h1:¬ s=⟨#[107,108,101,105,110]⟩) (h2:¬ s=⟨#[99,117,98,101]⟩) (h3:¬ s=⟨#[99,50,99,52]⟩) (h4:¬ s=⟨#[115,51]⟩) (h5:¬ s=⟨#[100,105,104,101,100,114,97,108]⟩) (h6:¬ s=⟨#[113,117,97,116,101,114,110,105,111,110]⟩) (hs:s.size=2) (b0:ZdO s 0=99) (b1:ZdO s 1=48+(d:Int)):Z6.f s=some (cyc d,true):=by
 have c2:=Zf7 (n:=2) (by omega) (by omega)
 have c2:ZI.f 2=some (cyc 2):=c2
 have cd:=Zf7 (n:=d) d1 d8
 rw[Z6.f_eq,c2,Option.bind_some,if_neg h1,if_neg h2,if_neg h3,if_neg h4,if_neg h5,if_neg h6,b0,b1,if_pos (by omega),if_pos (by omega),if_pos rfl,if_pos (by omega),if_pos (by omega),if_pos (by omega),if_pos (by omega),if_pos (by omega),wrB (by omega) (by omega),w64 (by omega) (by omega),show 48+(d:Int) - 48=(d:Int)by omega,cd,Option.bind_some]
def nmL:List ByteArray:=[⟨#[99,49]⟩,⟨#[99,50]⟩,⟨#[99,51]⟩,⟨#[99,52]⟩,⟨#[99,53]⟩,⟨#[99,54]⟩,⟨#[99,55]⟩,⟨#[99,56]⟩,⟨#[107,108,101,105,110]⟩,⟨#[115,51]⟩,⟨#[99,50,99,52]⟩,⟨#[99,117,98,101]⟩,⟨#[100,105,104,101,100,114,97,108]⟩,⟨#[113,117,97,116,101,114,110,105,111,110]⟩]
theorem ZeG {i:Int} (i0:0≤i) (i1:i < 14):∃G,Z6.f (Ty.rd .str nmL i)=some (G,true)∧Grp G:=by
 have c2:=Zf7 (n:=2) (by omega) (by omega)
 have c2:ZI.f 2=some (cyc 2):=c2
 have c4:=Zf7 (n:=4) (by omega) (by omega)
 have c4:ZI.f 4=some (cyc 4):=c4
 have t3:Zu.f 3 0=some (twd 3 0):=Zf9 (n:=3) (by omega) (by omega) (by omega) (by omega)
 have t4:Zu.f 4 0=some (twd 4 0):=Zf9 (n:=4) (by omega) (by omega) (by omega) (by omega)
 have t5:Zu.f 4 2=some (twd 4 2):=Zf9 (n:=4) (by omega) (by omega) (by omega) (by omega)
 obtain⟨g1,g2,g3,g4,g5,g6⟩:=ZjE
 have g2' := Zdc (Zhu 2 (by omega) (by omega))
 have g4' := Zdc (Zhu 4 (by omega) (by omega))
 have g22:=Zdc g1
 have p1:=Zf8 g2' g2'
 have p2:=Zf8 g2' g22
 have p3:=Zf8 g2' g4'
 have cyc' : ∀d:Nat,1≤d→d≤8→Ty.rd .str nmL ((d:Int) - 1)=⟨#[99,UInt8.ofNat (48+d)]⟩→∃G,Z6.f (Ty.rd .str nmL ((d:Int) - 1))=some (G,true)∧Grp G:=fun d d1 d8 e=>by
  rw[e]
  refine⟨cyc d,?_,Zdc (Zhu d d8 d1)⟩
  have hd:d=1∨d=2∨d=3∨d=4∨d=5∨d=6∨d=7∨d=8:=by omega
  rcases hd with rfl|rfl|rfl|rfl|rfl|rfl|rfl|rfl <;> exact Zk5 (by omega) (by omega) (by decide) (by decide) (by decide) (by decide) (by decide) (by decide) rfl rfl rfl
 have hi:i=0∨i=1∨i=2∨i=3∨i=4∨i=5∨i=6∨i=7∨i=8∨i=9∨i=10∨i=11∨i=12∨i=13:=by omega
 rcases hi with rfl|rfl|rfl|rfl|rfl|rfl|rfl|rfl|rfl|rfl|rfl|rfl|rfl|rfl
 ·
  exact cyc' 1 (by omega) (by omega) rfl
 ·
  exact cyc' 2 (by omega) (by omega) rfl
 ·
  exact cyc' 3 (by omega) (by omega) rfl
 ·
  exact cyc' 4 (by omega) (by omega) rfl
 ·
  exact cyc' 5 (by omega) (by omega) rfl
 ·
  exact cyc' 6 (by omega) (by omega) rfl
 ·
  exact cyc' 7 (by omega) (by omega) rfl
 ·
  exact cyc' 8 (by omega) (by omega) rfl
 ·
  refine⟨_,?_,g22⟩
  show Z6.f ⟨#[107,108,101,105,110]⟩=_
  rw[Z6.f_eq,c2,Option.bind_some,if_pos rfl,p1,Option.bind_some]
 ·
  refine⟨_,?_,Zdc g4⟩
  show Z6.f ⟨#[115,51]⟩=_
  rw[Z6.f_eq,c2,Option.bind_some,if_neg (by decide),if_neg (by decide),if_neg (by decide),if_pos rfl,t3,Option.bind_some]
 ·
  refine⟨_,?_,Zdc g3⟩
  show Z6.f ⟨#[99,50,99,52]⟩=_
  rw[Z6.f_eq,c2,Option.bind_some,if_neg (by decide),if_neg (by decide),if_pos rfl,c4,Option.bind_some,p3,Option.bind_some]
 ·
  refine⟨_,?_,Zdc g2⟩
  show Z6.f ⟨#[99,117,98,101]⟩=_
  rw[Z6.f_eq,c2,Option.bind_some,if_neg (by decide),if_pos rfl,p1,Option.bind_some,p2,Option.bind_some]
 ·
  refine⟨_,?_,Zdc g5⟩
  show Z6.f ⟨#[100,105,104,101,100,114,97,108]⟩=_
  rw[Z6.f_eq,c2,Option.bind_some,if_neg (by decide),if_neg (by decide),if_neg (by decide),if_neg (by decide),if_pos rfl,t4,Option.bind_some]
 ·
  refine⟨_,?_,Zdc g6⟩
  show Z6.f ⟨#[113,117,97,116,101,114,110,105,111,110]⟩=_
  rw[Z6.f_eq,c2,Option.bind_some,if_neg (by decide),if_neg (by decide),if_neg (by decide),if_neg (by decide),if_neg (by decide),if_pos rfl,t5,Option.bind_some]
theorem Draw_ {c:List Int} {i:Int} (h:Src c i) (hh:Int):∃G j h', Zbg.f c i hh=some (G,c,j,h')∧Src c j∧Grp G:=by
 obtain⟨x,j,h', e,s,x0,x1,_⟩:=Next_ h hh 14 (by omega)
 have x1:=x1 (by omega)
 obtain⟨G,hG,hgr⟩:=ZeG x0 x1
 obtain⟨y,j2,h2,e2,s2,y0,y1,_⟩:=Next_ s h' 2 (by omega)
 have hN:Zbb.f=some nmL:=Zbb.f_eq
 have hl:((nmL.length:Nat):Int)=14:=rfl
 by_cases q:y=0
 ·
  refine⟨G,j2,h2,?_,s2,hgr⟩
  rw[Zbg.f_eq,hN,Option.bind_some,hl,e]
  dsimp only[Option.bind_some]
  rw[if_pos x0,if_pos x1,if_pos x0,if_pos x1,hG]
  dsimp only[Option.bind_some]
  rw[e2]
  dsimp only[Option.bind_some]
  rw[if_pos q]
 ·
  obtain⟨p,j3,h3,e3,s3,o,p0⟩:=ZgK s2 h2 (n:=G.length) hgr.n1 (by have:=hgr.n8;omega)
  have hr:=Ze8 hgr o.ordr
  refine⟨ren G p,j3,h3,?_,s3,ZjW hgr o.ordr p0⟩
  rw[Zbg.f_eq,hN,Option.bind_some,hl,e]
  dsimp only[Option.bind_some]
  rw[if_pos x0,if_pos x1,if_pos x0,if_pos x1,hG]
  dsimp only[Option.bind_some]
  rw[e2]
  dsimp only[Option.bind_some]
  rw[if_neg q,ZX.f_eq,Option.bind_some,e3]
  dsimp only[Option.bind_some]
  rw[hr]
  rfl
end Go.Proofs.YthmcpmnhdbeahaaGreat.V
namespace Go.Proofs.YthmcpmnhdbeahaaGreat.V
open Go Go.RowKit Go.Proofs.YthmcpmnhdbeahaaGreat.D Go.Proofs.YthmcpmnhdbeahaaGreat.P
def GoP (g:List (List Int)) (m:Int) (us:List Int):Prop:=∀x:Int,0≤x→x < us.length→∀y:Int,0≤y→y < us.length→T g x y < us.length→rd us (T g x y)=rd us x*rd us y%m
theorem Zk1 {g:List (List Int)} (hg:Grp g) {m:Int} (m2:2≤m) (m12:m≤12) (k:Nat) {us:List Int} (hu:∀x∈us,1≤x∧x < m∧Int.gcd x m=1) (hl:us.length≤g.length) (out:List (Int×List Int)) :
  ZC.l0 k m us (us.length:Int) 0 out g=ite_ (GoP g m us) (ZC.l0 k m us (us.length:Int) (us.length:Int) out g) (some out):=by
 have n8:=hg.n8
 have outer:=scan us.length (fun x=>ZC.l0 k m us (us.length:Int) x out g) (fun x=>∀y:Int,0≤y→y < us.length→T g x y < us.length→rd us (T g x y)=rd us x*rd us y%m) (some out) (fun x x0 x1 _=>by
  have rx:=hg.row x x0 (by omega)
  have inner:=scanI us.length (fun y=>ZC.l1 k m us (us.length:Int) x y out g) (fun y=>T g x y < us.length→rd us (T g x y)=rd us x*rd us y%m) (some out) (ZC.l0 k m us (us.length:Int) (x+1) out g) (fun y y0 y1 _=>by
   obtain⟨t0,t1⟩:=hg.ent x y x0 (by omega) y0 (by omega)
   obtain⟨a0,a1,_⟩:=hu _ (ZcM x0 x1)
   obtain⟨b0,b1,_⟩:=hu _ (ZcM y0 y1)
   obtain⟨p0,p1⟩:=Zcs (a:=rd us x) (b:=rd us y) (m:=1000) (by omega) (by omega) (by omega) (by omega) (by omega)
   refine⟨fun h => ?_,fun h => ?_⟩
   ·
    by_cases ht:T g x y < us.length
    ·
     have h:=h ht
     rw[ZC.l1_eq,w64 (x:=y+1) (by omega) (by omega),w64 (x:=rd us x*rd us y) (by omega) (by omega),ZbW p0]
     (with_reducible repeat (first|refine Zj (by first|assumption|omega|rfl|exact B_pos (by omega)) ?_|refine Zi (by first|assumption|omega|decide|exact B_not (by omega)) ?_|refine Za (by first|assumption) ?_|dsimp only))
    ·
     rw[ZC.l1_eq,w64 (x:=y+1) (by omega) (by omega)]
     (with_reducible repeat (first|refine Zj (by first|assumption|omega|rfl|exact B_pos (by omega)) ?_|refine Zi (by first|assumption|omega|decide|exact B_not (by omega)) ?_|refine Za (by first|assumption) ?_|dsimp only))
   ·
    have ht:T g x y < us.length:=by
     by_cases q:T g x y < us.length
     ·
      exact q
     ·
      exact absurd (fun k=>absurd k q) h
    have h:¬ rd us (T g x y)=rd us x*rd us y%m:=fun k=>h fun _=>k
    rw[ZC.l1_eq,w64 (x:=rd us x*rd us y) (by omega) (by omega),ZbW p0]
    (with_reducible repeat (first|refine Zj (by first|assumption|omega|rfl|exact B_pos (by omega)) ?_|refine Zi (by first|assumption|omega|decide|exact B_not (by omega)) ?_|refine Za (by first|assumption) ?_|dsimp only))) (fun _=>by
     rw[ZC.l1_eq,w64 (x:=x+1) (by omega) (by omega)]
     (with_reducible repeat (first|refine Zj (by first|assumption|omega|rfl|exact B_pos (by omega)) ?_|refine Zi (by first|assumption|omega|decide|exact B_not (by omega)) ?_|refine Za (by first|assumption) ?_|dsimp only)))
  refine⟨fun h => ?_,fun h => ?_⟩ <;> rw[ZC.l0_eq,if_pos (by omega)]
  ·
   exact inner.1 h
  ·
   exact inner.2 h)
 rcases outer with ⟨h1,h2⟩|⟨j,j0,j1,_,h1,_,h2⟩
 ·
  rw[Zb0 (show GoP g m us from h1),h2]
 ·
  rw[ZbP (show ¬ GoP g m us from fun q=>h1 (q j j0 j1))]
  exact h2
theorem pow12 {a b:Nat} (h:a=b+1):(12:Nat) ^ a=12*12 ^ b:=by rw[h,Nat.pow_succ,Nat.mul_comm]
theorem Zk4 {g:List (List Int)} (hg:Grp g) {m:Int} (m2:2≤m) (m12:m≤12):∀(k:Nat) (us:List Int) (out:List (Int×List Int)),(∀x∈us,1≤x∧x < m∧Int.gcd x m=1)→us.length≤g.length→g.length < us.length+k→out.length+12 ^ (g.length - us.length)≤1000000000 →
  ∃O,ZC.f k g m us out=some (out++O)∧(∀p∈O,p.1=m∧Mdl g m p.2)∧O.length≤12 ^ (g.length - us.length)∧((∀x∈us,x=1)→O≠[]):=by
 have n8:=hg.n8
 intro k
 induction k with
 | zero=>intro us out _ hl hk _;omega
 | succ k ih =>
  intro us out hu hl hk hb
  have ht:=Zk1 hg m2 m12 k hu hl out
  rw[ZC.f_eq,ht]
  by_cases hG:GoP g m us
  rotate_left
  ·
   rw[ZbP hG]
   refine⟨[],by rw[List.append_nil],by simp,Nat.zero_le _,fun h=>absurd (fun x x0 x1 y y0 y1 ht => ?_) hG⟩
   obtain⟨t0,_⟩:=hg.ent x y x0 (by omega) y0 (by omega)
   rw[h _ (ZcM x0 x1),h _ (ZcM y0 y1),h _ (ZcM t0 ht),Int.mul_one,Int.emod_eq_of_lt (by omega) (by omega)]
  rw[Zb0 hG,ZC.l0_eq,if_neg (by omega)]
  by_cases hN:(us.length:Int)=(g.length:Int)
  ·
   rw[if_pos hN,Own_ us (by omega),Option.bind_some]
   have l1:([(m,us)]:List (Int×List Int)).length=1:=rfl
   have hp1:1≤12 ^ (g.length - us.length):=Nat.one_le_pow _ _ (by omega)
   rw[l1,if_pos (by omega)]
   refine⟨[(m,us)],rfl,fun p hp => ?_,by rw[l1];exact hp1,fun _=>by simp⟩
   rw[List.mem_singleton]at hp
   subst hp
   refine⟨rfl,m2,m12,by show us.length=_;omega,fun i i0 i1=>hu _ (ZcM i0 i1),fun i i0 i1 j j0 j1 => ?_⟩
   have i1:i < us.length:=i1
   have j1:j < us.length:=j1
   exact hG i i0 i1 j j0 j1 (by rw[hN];exact(hg.ent i j i0 (by omega) j0 (by omega)).2)
  rw[if_neg hN]
  have hp12:=pow12 (show g.length - us.length=(g.length - (us.length+1))+1 by omega)
  obtain⟨P,hP⟩:∃P,P=(12:Nat) ^ (g.length - (us.length+1)):=⟨_,rfl⟩
  rw[←hP]at hp12
  have loop:∀(n:Nat) (c:Int) (out:List (Int×List Int)),1≤c→c+n=m→out.length+n*P≤1000000000 →
    ∃O,ZC.l2 k m us (us.length:Int) c out g=some (out++O)∧(∀p∈O,p.1=m∧Mdl g m p.2)∧O.length≤n*P∧(c=1→(∀x∈us,x=1)→O≠[]):=by
   intro n
   induction n with
   | zero =>
    intro c out c0 hcm _
    exact⟨[],by rw[ZC.l2_eq,if_neg (by omega),List.append_nil],by simp,Nat.zero_le _,fun h=>by omega⟩
   | succ n ihn =>
    intro c out c0 hcm hb
    rw[Nat.succ_mul]at hb
    have hgcd:=Gcd_ (a:=c) (b:=m) (by omega) (by omega) (by omega) (by omega)
    have wc:wrapI (c+1)=c+1:=w64 (by omega) (by omega)
    have hO:=Own_ us (by omega)
    have l1:([c]:List Int).length=1:=rfl
    rw[ZC.l2_eq,if_pos (by omega),hgcd,Option.bind_some,hO,wc]
    by_cases hc:((Int.gcd c m:Nat):Int)=1
    rotate_left
    ·
     obtain⟨O,o1,o2,o3,o4⟩:=ihn (c+1) out (by omega) (by omega) (by omega)
     refine⟨O,by rw[if_neg hc];exact o1,o2,by rw[Nat.succ_mul];omega,fun h=>absurd ?_ hc⟩
     rw[h,Int.gcd_comm,Int.gcd_one_right];rfl
    rw[if_pos hc]
    by_cases hz:us.length=0∧¬ c=1
    ·
     obtain⟨O,o1,o2,o3,o4⟩:=ihn (c+1) out (by omega) (by omega) (by omega)
     exact⟨O,by rw[if_neg (by omega),if_neg hz.2];exact o1,o2,by rw[Nat.succ_mul];omega,fun h=>absurd h hz.2⟩
    have hu' : ∀x∈us++[c],1≤x∧x < m∧Int.gcd x m=1:=fun x hx=>by
     rcases List.mem_append.1 hx with h|h
     ·
      exact hu x h
     ·
      rw[List.mem_singleton]at h
      subst h
      exact⟨c0,by omega,by omega⟩
    have e1:(us++[c]).length=us.length+1:=by simp
    obtain⟨O,o1,o2,o3,o4⟩:=ih (us++[c]) out hu' (by omega) (by omega) (by rw[e1,←hP];omega)
    rw[e1,←hP]at o3
    obtain⟨O', q1,q2,q3,q4⟩:=ihn (c+1) (out++O) (by omega) (by omega) (by rw[List.length_append];omega)
    refine⟨O++O', ?_,fun p hp => ?_,by rw[List.length_append,Nat.succ_mul];omega,fun h ha => ?_⟩
    ·
     rw[←List.append_assoc,←q1]
     by_cases hx:us.length=0
     ·
      have hc1:c=1:=Classical.byContradiction fun q=>hz ⟨hx,q⟩
      rw[if_neg (by omega),if_pos hc1]
      dsimp only[Option.bind_some]
      rw[l1,if_pos (by omega),o1]
      rfl
     ·
      rw[if_pos (by omega)]
      dsimp only[Option.bind_some]
      rw[l1,if_pos (by omega),o1]
      rfl
    ·
     rcases List.mem_append.1 hp with h|h
     ·
      exact o2 p h
     ·
      exact q2 p h
    ·
     have:=o4 fun x hx=>by
      rcases List.mem_append.1 hx with h' | h'
      ·
       exact ha x h'
      ·
       rw[List.mem_singleton]at h';omega
     simp[this]
  obtain⟨O,a1,a2,a3,a4⟩:=loop (m.toNat - 1) 1 out (by omega) (by omega) (by
   have:(m.toNat - 1)*P≤12*P:=Nat.mul_le_mul_right P (by omega)
   omega)
  refine⟨O,a1,a2,?_,fun h=>a4 rfl h⟩
  rw[hp12]
  exact Nat.le_trans a3 (Nat.mul_le_mul_right P (by omega))
theorem Zlz {g:List (List Int)} (hg:Grp g) {m:Int} (m2:2≤m) (m12:m≤12):∃O,Zbr.f g m=some O∧(∀p∈O,p.1=m∧Mdl g m p.2)∧0 < O.length∧O.length≤429981696:=by
 have n8:=hg.n8
 have hp:(12:Nat) ^ g.length≤429981696:=Nat.le_trans (Nat.pow_le_pow_right (by omega) n8) (by decide)
 obtain⟨O,o1,o2,o3,o4⟩:=Zk4 hg m2 m12 fuel [] [] (by simp) (by simp) (by have:=Zjn;simp;omega) (by simp;omega)
 simp only[List.nil_append,List.length_nil,Nat.sub_zero]at o1 o3
 refine⟨O,by rw[Zbr.f_eq,o1];rfl,o2,List.length_pos_iff.2 (o4 (by simp)),by omega⟩
theorem Zlt {O:List (Int×List Int)} {x:Int} (x0:0≤x) (x1:x < O.length):Ty.rd (.pr (.int .i64) (.sl 2 (.int .i64))) O x∈O:=by
 obtain⟨n,rfl⟩:=Int.eq_ofNat_of_zero_le x0
 have hn:n < O.length:=by omega
 have:Ty.rd (.pr (.int .i64) (.sl 2 (.int .i64))) O (n:Int)=O[n]:=by
  simp[Ty.rd,List.getD_eq_getElem?_getD,List.getElem?_eq_getElem hn]
 rw[this]
 exact List.getElem_mem hn
theorem ZkZ {c:List Int} {i:Int} (h:Src c i) (hh:Int) {g:List (List Int)} (hg:Grp g) {m:Int} (m2:2≤m) (m12:m≤12):∃u j h', ZaR.f c i hh g m=some (m,u,c,j,h')∧Src c j∧Mdl g m u:=by
 obtain⟨O,o1,o2,o3,o4⟩:=Zlz hg m2 m12
 obtain⟨x,j,h', e,s,x0,x1,_⟩:=Next_ h hh (O.length:Int) (by omega)
 have x1:=x1 (by omega)
 have hm:=o2 _ (Zlt x0 x1)
 refine⟨(Ty.rd (.pr (.int .i64) (.sl 2 (.int .i64))) O x).2,j,h', ?_,s,hm.2⟩
 rw[ZaR.f_eq,o1,Option.bind_some,e]
 dsimp only[Option.bind_some]
 rw[if_pos x0,if_pos x1,if_pos x0,if_pos x1,hm.1]
end Go.Proofs.YthmcpmnhdbeahaaGreat.V
namespace Go.Proofs.YthmcpmnhdbeahaaGreat.V
open Go Go.RowKit Go.Proofs.YthmcpmnhdbeahaaGreat.D Go.Proofs.YthmcpmnhdbeahaaGreat.P
def SmT (g:List (List Int)):Prop:=g.length≤9∧∀r∈g,r.length≤9
theorem SmT.max {g:List (List Int)} (h:SmT g):g.length≤maxLen∧∀r∈g,r.length≤maxLen:=⟨Zeg (by have:=h.1;omega),fun r hr=>Zeg (by have:=h.2 r hr;omega)⟩
theorem Zj3 {g:List (List Int)} (hg:Grp g):SmT g:=⟨by have:=hg.n8;omega,fun r hr=>by have:=Zfl hg r hr;omega⟩
theorem Zj4 {g:List (List Int)} (hg:SmT g) {r:List Int} (hr:r.length≤9) (k:Nat):SmT (g.set k r):=by
 refine⟨by rw[List.length_set];exact hg.1,fun s hs => ?_⟩
 rcases List.mem_or_eq_of_mem_set hs with h|rfl
 ·
  exact hg.2 s h
 ·
  exact hr
theorem Bad_ {c:List Int} {i:Int} (h:Src c i) (hh:Int) {g:List (List Int)} (hg:Grp g):∃g' j h', Zbq.f c i hh g=some (g', c,j,h')∧Src c j∧SmT g' := by
 have n8:=hg.n8;have n1:=hg.n1
 have hsm:=Zj3 hg
 have hc:=Copy_ g (by omega) (fun r hr=>by have:=Zfl hg r hr;omega)
 obtain⟨x,j,h', e,s,x0,x1,_⟩:=Next_ h hh 50 (by omega)
 obtain⟨y,j2,h2,e2,s2,y0,y1,_⟩:=Next_ s h' (g.length:Int) (by omega)
 have y1:=y1 (by omega)
 have ry:=hg.row y y0 y1
 rw[Zbq.f_eq,hc,Option.bind_some,e]
 dsimp only[Option.bind_some]
 by_cases q0:x=0
 ·
  exact⟨[],j,h', by rw[if_pos q0],s,by simp[SmT]⟩
 by_cases q1:x=1
 ·
  obtain⟨z,j3,h3,e3,s3,z0,z1,_⟩:=Next_ s2 h2 (g.length:Int) (by omega)
  have z1:=z1 (by omega)
  obtain⟨v,j4,h4,e4,s4,_⟩:=Pick_ s3 h3 [0,1,-1,(g.length:Int)] (by simp) (by simp)
  refine⟨g.set y.toNat ((row g y).set z.toNat v),j4,h4,?_,s4,Zj4 hsm (by rw[List.length_set];omega) _⟩
  rw[if_neg q0,if_pos q1,ZX.f_eq,Option.bind_some,e2]
  dsimp only[Option.bind_some]
  rw[if_pos y0,if_pos y1,if_pos y0,if_pos y1,e3]
  dsimp only[Option.bind_some]
  rw[e4]
  dsimp only[Option.bind_some]
  rw[if_pos z0,if_pos (by omega),if_pos z0,if_pos (by omega)]
 by_cases q2:x=2
 ·
  have r0:=hg.row 0 (by omega) (by omega)
  have l1:([row g 0]:List (List Int)).length=1:=rfl
  refine⟨g++[row g 0],j,h', ?_,s,⟨by rw[List.length_append,l1];omega,fun r hr => ?_⟩⟩
  ·
   rw[if_neg q0,if_neg q1,if_pos q2,if_pos (by omega),if_pos (by omega),Own_ _ (by omega)]
   dsimp only[Option.bind_some]
   rw[l1,if_pos (by omega)]
  ·
   rcases List.mem_append.1 hr with k|k
   ·
    exact hsm.2 r k
   ·
    rw[List.mem_singleton]at k
    subst k
    omega
 by_cases q3:x=3
 ·
  refine⟨g.set y.toNat ((row g y).drop 1),j2,h2,?_,s2,Zj4 hsm (by rw[List.length_drop];omega) _⟩
  rw[if_neg q0,if_neg q1,if_neg q2,if_pos q3,ZX.f_eq,Option.bind_some,e2]
  dsimp only[Option.bind_some]
  rw[if_pos y0,if_pos y1,if_pos y0,if_pos y1,if_pos (by omega),if_pos y0,if_pos y1,if_pos y0,if_pos y1]
  rfl
 ·
  exact⟨g,j,h', by rw[if_neg q0,if_neg q1,if_neg q2,if_neg q3],s,hsm⟩
theorem ZlB {c:List Int} {i:Int} (h:Src c i) (hh:Int) (m:Int) {u:List Int} (u1:1≤u.length) (u8:u.length≤8):∃m' u' j h', Zbi.f c i hh m u=some (m', u', c,j,h')∧Src c j∧u'.length≤9:=by
 obtain⟨x,j,h', e,s,x0,x1,_⟩:=Next_ h hh 40 (by omega)
 rw[Zbi.f_eq,e]
 dsimp only[Option.bind_some]
 by_cases q0:x=0
 ·
  obtain⟨v,j4,h4,e4,s4,_⟩:=Pick_ s h' [1,13,wrapI (m+1),0] (by simp) (by simp)
  refine⟨v,u,j4,h4,?_,s4,by omega⟩
  rw[if_pos q0,e4]
  rfl
 by_cases q1:x=1
 ·
  obtain⟨y,j2,h2,e2,s2,y0,y1,_⟩:=Next_ s h' (u.length:Int) (by omega)
  have y1:=y1 (by omega)
  obtain⟨v,j4,h4,e4,s4,_⟩:=Pick_ s2 h2 [0,-1,2,3,m] (by simp) (by simp)
  refine⟨m,u.set y.toNat v,j4,h4,?_,s4,by rw[List.length_set];omega⟩
  rw[if_neg q0,if_pos q1,Own_ u (by omega)]
  dsimp only[Option.bind_some]
  rw[e2]
  dsimp only[Option.bind_some]
  rw[e4]
  dsimp only[Option.bind_some]
  rw[if_pos y0,if_pos y1,if_pos y0,if_pos y1]
 by_cases q2:x=2
 ·
  have l1:([1]:List Int).length=1:=rfl
  refine⟨m,u++[1],j,h', ?_,s,by rw[List.length_append,l1];omega⟩
  rw[if_neg q0,if_neg q1,if_pos q2,Own_ u (by omega)]
  dsimp only[Option.bind_some]
  rw[l1,if_pos (by omega)]
 ·
  exact⟨m,u,j,h', by rw[if_neg q0,if_neg q1,if_neg q2],s,by omega⟩
theorem ZlT {g:List (List Int)} (hg:Grp g) {m:Int} {u:List Int} (hm:Mdl g m u):1≤u.length∧u.length≤8:=by
 have:=hg.n8;have:=hg.n1;have:=hm.len
 omega
structure CodeL (c:List Int):Prop where
 ent:∀x∈c,0≤x∧x≤255
 len:c.length≤4096
end Go.Proofs.YthmcpmnhdbeahaaGreat.V
namespace Go.Proofs.YthmcpmnhdbeahaaGreat.V
open Go Go.RowKit Go.Proofs.YthmcpmnhdbeahaaGreat.D Go.Proofs.YthmcpmnhdbeahaaGreat.P
def smL:List ByteArray:=[⟨#[99,49]⟩,⟨#[99,50]⟩,⟨#[99,50]⟩,⟨#[99,51]⟩,⟨#[99,51]⟩,⟨#[99,52]⟩,⟨#[107,108,101,105,110]⟩]
theorem ZkD {i:Int} (i0:0≤i) (i1:i < 7):∃G,Z6.f (Ty.rd .str smL i)=some (G,true)∧Grp G:=by
 have hi:i=0∨i=1∨i=2∨i=3∨i=4∨i=5∨i=6:=by omega
 rcases hi with rfl|rfl|rfl|rfl|rfl|rfl|rfl
 ·
  exact ZeG (i:=0) (by omega) (by omega)
 ·
  exact ZeG (i:=1) (by omega) (by omega)
 ·
  exact ZeG (i:=1) (by omega) (by omega)
 ·
  exact ZeG (i:=2) (by omega) (by omega)
 ·
  exact ZeG (i:=2) (by omega) (by omega)
 ·
  exact ZeG (i:=3) (by omega) (by omega)
 ·
  exact ZeG (i:=8) (by omega) (by omega)
theorem ZlF {c:List Int} {i:Int} (h:Src c i) (hh:Int):∃G j h', Zbc.f c i hh=some (G,c,j,h')∧Src c j∧Grp G:=by
 obtain⟨x,j,h', e,s,x0,x1,_⟩:=Next_ h hh 7 (by omega)
 have x1:=x1 (by omega)
 obtain⟨G,hG,hgr⟩:=ZkD x0 x1
 obtain⟨y,j2,h2,e2,s2,y0,y1,_⟩:=Next_ s h' 2 (by omega)
 have hl:((smL.length:Nat):Int)=7:=rfl
 have hf:=Zbc.f_eq c i hh
 rw[show([(⟨#[99,49]⟩:ByteArray),(⟨#[99,50]⟩:ByteArray),(⟨#[99,50]⟩:ByteArray),(⟨#[99,51]⟩:ByteArray),(⟨#[99,51]⟩:ByteArray),(⟨#[99,52]⟩:ByteArray),(⟨#[107,108,101,105,110]⟩:ByteArray)]:List ByteArray)=smL from rfl,hl]at hf
 by_cases q:y=0
 ·
  refine⟨G,j2,h2,?_,s2,hgr⟩
  rw[hf,e]
  dsimp only[Option.bind_some]
  rw[if_pos x0,if_pos x1,if_pos x0,if_pos x1,hG]
  dsimp only[Option.bind_some]
  rw[e2]
  dsimp only[Option.bind_some]
  rw[if_pos q]
 ·
  obtain⟨p,j3,h3,e3,s3,o,p0⟩:=ZgK s2 h2 (n:=G.length) hgr.n1 (by have:=hgr.n8;omega)
  have hr:=Ze8 hgr o.ordr
  refine⟨ren G p,j3,h3,?_,s3,ZjW hgr o.ordr p0⟩
  rw[hf,e]
  dsimp only[Option.bind_some]
  rw[if_pos x0,if_pos x1,if_pos x0,if_pos x1,hG]
  dsimp only[Option.bind_some]
  rw[e2]
  dsimp only[Option.bind_some]
  rw[if_neg q,ZX.f_eq,Option.bind_some,e3]
  dsimp only[Option.bind_some]
  rw[hr]
  rfl
theorem ZlG {c:List Int} {i:Int} (h:Src c i) (hh:Int):∃G j h', Zbd.f c i hh=some (G,c,j,h')∧Src c j∧SmT G:=by
 obtain⟨G,j,h', e,s,hg⟩:=Draw_ h hh
 obtain⟨G', j2,h2,e2,s2,hg2⟩:=Bad_ s h' hg
 refine⟨G', j2,h2,?_,s2,hg2⟩
 rw[Zbd.f_eq,e]
 dsimp only[Option.bind_some]
 rw[e2]
 rfl
theorem ZlC {c:List Int} {i:Int} (h:Src c i) (hh:Int) (m:Int) (u:List Int) (d:Int) {v:List Int} (hv:v.length≤20000):∃d' v' j h', Zbj.f c i hh m u d v=some (d', v', c,j,h')∧Src c j∧v'.length≤20001:=by
 obtain⟨x,j,h', e,s,x0,x1,_⟩:=Next_ h hh 40 (by omega)
 rw[Zbj.f_eq,Own_ v (by omega),Option.bind_some,e]
 dsimp only[Option.bind_some]
 by_cases q0:x=0
 ·
  obtain⟨y,j4,h4,e4,s4,_⟩:=Pick_ s h' [-1,4,wrapI (d+1)] (by simp) (by simp)
  refine⟨y,v,j4,h4,?_,s4,by omega⟩
  rw[if_pos q0,e4]
  rfl
 by_cases q1:x=1
 ·
  have l1:([0]:List Int).length=1:=rfl
  refine⟨d,v++[0],j,h', ?_,s,by rw[List.length_append,l1];omega⟩
  rw[if_neg q0,if_pos q1,l1,if_pos (by omega)]
 by_cases q2:x=2
 ·
  by_cases q3:(v.length:Int) > 0
  ·
   obtain⟨y,j2,h2,e2,s2,y0,y1,_⟩:=Next_ s h' (v.length:Int) (by omega)
   have y1:=y1 (by omega)
   obtain⟨w,j4,h4,e4,s4,_⟩:=Pick_ s2 h2 [-1,m] (by simp) (by simp)
   refine⟨d,v.set y.toNat w,j4,h4,?_,s4,by rw[List.length_set];omega⟩
   rw[if_neg q0,if_neg q1,if_pos q2,if_pos q3,e2]
   dsimp only[Option.bind_some]
   rw[e4]
   dsimp only[Option.bind_some]
   rw[if_pos y0,if_pos y1,if_pos y0,if_pos y1]
  ·
   exact⟨d,v,j,h', by rw[if_neg q0,if_neg q1,if_pos q2,if_neg q3],s,by omega⟩
 ·
  exact⟨d,v,j,h', by rw[if_neg q0,if_neg q1,if_neg q2],s,by omega⟩
theorem Zk7 {g:List (List Int)} (hg:Grp g) {d:Int} (d0:0≤d) (d1:d≤3):∃v,Za2.f g d=some (d,v)∧v.length≤16807:=by
 obtain⟨k,rfl⟩:=Int.eq_ofNat_of_zero_le d0
 have hc:=Zd5 hg (d:=(k:Int)) (by omega) (by omega)
 obtain⟨b1,b2⟩:=nA_bd hg (e:=k) (by omega)
 rw[←b2]at hc
 refine⟨List.replicate (nB g k) 0,?_,by rw[List.length_replicate];exact b1⟩
 rw[Za2.f_eq,hc,Option.bind_some,Int.toNat_natCast,if_pos rfl,if_pos (by omega),if_pos (by omega)]
theorem Ziq {c:List Int} {i:Int} (h:Src c i) (hh:Int) {g:List (List Int)} (hg:Grp g) {m:Int} {u:List Int} (hm:Mdl g m u) {q:List (List Int)} (hq:∀r∈q,r=[]∨(r.length=nB g 2∧AllIn m r)) (hql:q.length≤20000) {r:List Int} (hr:r.length=nB g 2) (ha:AllIn m r) :
  ∃m' u' d' v', Zan.l0 (0:Int) 0 0 c i hh g m u q r=some (g,m', u', d', v')∧u'.length≤9∧v'.length≤20001:=by
 have m2:=hm.m2;have m12:=hm.m12
 obtain⟨b1,b2⟩:=nA_bd hg (e:=2) (by omega)
 obtain⟨u1,u8⟩:=ZlT hg hm
 have main:∀(n k:Nat) (i hh:Int) (r:List Int),k+n=q.length→Src c i→r.length=nB g 2→AllIn m r→∃i' hh' r', Zan.l0 (k:Int) 0 0 c i hh g m u q r=Zan.l0 (q.length:Int) 0 0 c i' hh' g m u q r' ∧ Src c i' ∧ r'.length=nB g 2:=by
  intro n
  induction n with
  | zero =>
   intro k i hh r hk hs hl _
   exact⟨i,hh,r,by rw[show k=q.length by omega],hs,hl⟩
  | succ n ih =>
   intro k i hh r hk hs hl hi
   by_cases hz:((row q (k:Int)).length:Int) > 0
   ·
    obtain⟨x,j1,h1,e1,s1,x0,x1,_⟩:=Next_ hs hh m (by omega)
    have x1:=x1 (by omega)
    obtain⟨y,j2,h2,e2,s2,y0,y1,_⟩:=Next_ s1 h1 2 (by omega)
    have y1:=y1 (by omega)
    have hrow:=hq _ (Zgy (g:=q) (a:=(k:Int)) (by omega) (by omega))
    rcases hrow with hrow|⟨w1,w2⟩
    ·
     rw[hrow]at hz
     simp at hz
    obtain⟨p0,p1⟩:=Zcs (a:=x) (b:=y) (m:=1000) (by omega) (by omega) (by omega) (by omega) (by omega)
    have hM:=Mix_ m2 m12 (x:=1) (y:=x*y) hi w2 (by omega) (by omega) (by omega) (by omega) (by omega) (by omega)
    obtain⟨i', hh', r', e', s', l'⟩:=ih (k+1) j2 h2 (mix m 1 r (x*y) (row q (k:Int))) (by omega) s2 (by rw[ZbB];exact hl) (ZcY (by omega))
    refine⟨i', hh', r', ?_,s', l'⟩
    rw[Zan.l0_eq,if_pos (by omega),if_pos (by omega),if_pos (by omega),if_pos (by omega),if_pos (by omega),if_pos hz,if_pos (by omega),if_pos (by omega),if_pos (by omega),if_pos (by omega),e1]
    dsimp only[Option.bind_some]
    rw[e2]
    dsimp only[Option.bind_some]
    rw[w64 (x:=x*y) (by omega) (by omega),hM,Option.bind_some,wn (j:=k) (by omega)]
    exact e'
   ·
    obtain⟨i', hh', r', e', s', l'⟩:=ih (k+1) i hh r (by omega) hs hl hi
    refine⟨i', hh', r', ?_,s', l'⟩
    rw[Zan.l0_eq,if_pos (by omega),if_pos (by omega),if_pos (by omega),if_pos (by omega),if_pos (by omega),if_neg hz,wn (j:=k) (by omega)]
    exact e'
 obtain⟨i', hh', r', e', s', l'⟩:=main q.length 0 i hh r (by omega) h hr ha
 have e' : Zan.l0 (0:Int) 0 0 c i hh g m u q r=_:=e'
 obtain⟨x,j,h1,e,s,x0,x1,_⟩:=Next_ s' hh' 20 (by omega)
 rw[e', Zan.l0_eq,if_neg (by omega),e]
 dsimp only[Option.bind_some]
 have fin:∀(i hh d:Int) (v:List Int),Src c i→v.length≤20000→∃m' u' d' v', ((Zbi.f c i hh m u).bind fun t100=>(Zbj.f t100.2.2.1 t100.2.2.2.1 t100.2.2.2.2 m u d v).bind fun t104=>some (g,t100.1,t100.2.1,t104.1,t104.2.1))=some (g,m', u', d', v')∧u'.length≤9∧v'.length≤20001:=fun i hh d v hs hv=>by
  obtain⟨m', u', j6,h6,e6,s6,hu'⟩:=ZlB hs hh m u1 u8
  obtain⟨d', v', j7,h7,e7,s7,hv'⟩:=ZlC s6 h6 m u d hv
  refine⟨m', u', d', v', ?_,hu', hv'⟩
  rw[e6]
  dsimp only[Option.bind_some]
  rw[e7]
  rfl
 by_cases q0:x=0
 ·
  rw[if_pos q0]
  by_cases q3:(r'.length:Int) > 0
  ·
   obtain⟨y,j2,h2,e2,s2,y0,y1,_⟩:=Next_ s h1 (r'.length:Int) (by omega)
   have y1:=y1 (by omega)
   obtain⟨z,j3,h3,e3,s3,_⟩:=Next_ s2 h2 m (by omega)
   rw[if_pos q3,e2]
   dsimp only[Option.bind_some]
   rw[e3]
   dsimp only[Option.bind_some]
   rw[if_pos y0,if_pos y1,if_pos y0,if_pos y1]
   exact fin j3 h3 2 _ s3 (by rw[List.length_set];omega)
  ·
   rw[if_neg q3]
   exact fin j h1 2 _ s (by omega)
 rw[if_neg q0]
 by_cases q1:x=1
 ·
  obtain⟨y,j2,h2,e2,s2,y0,y1,_⟩:=Next_ s h1 3 (by omega)
  have y1:=y1 (by omega)
  obtain⟨v,hv,hvl⟩:=Zk7 hg y0 (show y≤3 by omega)
  rw[if_pos q1,e2]
  dsimp only[Option.bind_some]
  rw[hv]
  dsimp only[Option.bind_some]
  exact fin j2 h2 y v s2 (by omega)
 ·
  rw[if_neg q1]
  exact fin j h1 2 _ s (by omega)
theorem Zk6 {c:List Int} (h:CodeL c):∃g m u d v,Zan.f c=some (g,m,u,d,v)∧SmT g∧u.length≤9∧v.length≤20001:=by
 obtain⟨h0,e0,s0⟩:=From_ h.ent h.len
 obtain⟨G,j1,h1,e1,s1,hG⟩:=ZlF s0 h0
 obtain⟨x,j2,h2,e2,s2,x0,x1,_⟩:=Next_ s1 h1 3 (by omega)
 have rest:∀(g:List (List Int)) (i hh:Int),SmT g→Src c i→∃m u d v,((Zs.f g).bind fun t23=>if t23=true then((ZaE.f c i hh ([2,2,2,3,4,4,8,12]:List Int)).bind fun t34=>(ZaR.f t34.2.1 t34.2.2.1 t34.2.2.2 g t34.1).bind fun t35=>(Za8.f g t35.1 t35.2.1 2).bind fun t39=>(ZG.f g 2).bind fun t43=>if t43=t43 then(if 0≤t43 then(if(t43:Int).toNat≤17592186044416 then(Zan.l0 0 0 0 t35.2.2.1 t35.2.2.2.1 t35.2.2.2.2 g t35.1 t35.2.1 t39.2 (List.replicate (t43:Int).toNat (0:Int)))else none)else none)else none)else(some (g,2,([1]:List Int),2,([]:List Int))))=some (g,m,u,d,v)∧u.length≤9∧v.length≤20001:=fun g i hh hsm hs=>by
  by_cases hg:Grp g
  rotate_left
  ·
   exact⟨2,[1],2,[],by rw[Is_ g,B_neg hg];rfl,by simp,by simp⟩
  obtain⟨m,j3,h3,e3,s3,hmm⟩:=Pick_ hs hh [2,2,2,3,4,4,8,12] (by simp) (by simp)
  have hm2:2≤m∧m≤12:=by
   simp only[List.mem_cons,List.not_mem_nil,or_false]at hmm
   omega
  obtain⟨u,j4,h4,e4,s4,hm⟩:=ZkZ s3 h3 hg hm2.1 hm2.2
  obtain⟨p,q,hB,_,hq⟩:=Both_ hg hm (n:=2) (by omega)
  have hB:Za8.f g m u 2=some (p,q):=hB
  have hc:=Zd5 hg (d:=2) (by omega) (by omega)
  obtain⟨b1,b2⟩:=nA_bd hg (e:=2) (by omega)
  have b2:((nB g 2:Nat):Int)=cells g 2:=b2
  rw[←b2]at hc
  rw[Is_ g,B_pos hg,Option.bind_some,if_pos rfl,e3]
  dsimp only[Option.bind_some]
  rw[e4]
  dsimp only[Option.bind_some]
  rw[hB]
  dsimp only[Option.bind_some]
  rw[hc]
  dsimp only[Option.bind_some]
  rw[if_pos rfl,if_pos (by omega),Int.toNat_natCast,if_pos (by omega)]
  have hql:=hq.tab.len
  exact Ziq s4 h4 hg hm (fun r hr=>by
   obtain⟨j,j0,j1,rfl⟩:=ZjC hr
   obtain⟨k,rfl⟩:=Int.eq_ofNat_of_zero_le j0
   rcases hq.tab.rws k (by omega)with w|w
   ·
    exact .inl w
   ·
    exact .inr ⟨w.len,w.ent⟩) (by omega) List.length_replicate (ZbX fun z hz=>by rw[List.eq_of_mem_replicate hz];omega)
 rw[Zan.f_eq,e0]
 dsimp only[Option.bind_some]
 rw[e1]
 dsimp only[Option.bind_some]
 rw[e2]
 dsimp only[Option.bind_some]
 by_cases q:x=0
 ·
  obtain⟨g,j3,h3,e3,s3,hg⟩:=ZlG s2 h2
  obtain⟨m,u,d,v,e,hu,hv⟩:=rest g j3 h3 hg s3
  refine⟨g,m,u,d,v,?_,hg,hu,hv⟩
  rw[if_pos q,e3]
  exact e
 ·
  obtain⟨m,u,d,v,e,hu,hv⟩:=rest G j2 h2 (Zj3 hG) s2
  refine⟨G,m,u,d,v,?_,Zj3 hG,hu,hv⟩
  rw[if_neg q]
  exact e
theorem ZdU {c:List Int} (h:CodeL c):∃g m u d v,ZP.f c=some (g,m,u,d,v)∧SmT g∧u.length≤9∧v.length≤20001:=by
 obtain⟨g,m,u,d,v,e,a⟩:=Zk6 h
 exact⟨g,m,u,d,v,by rw[ZP.f_eq,e];rfl,a⟩
end Go.Proofs.YthmcpmnhdbeahaaGreat.V
namespace Go.Proofs.YthmcpmnhdbeahaaGreat.Pure
open Go.RowKit Go.Proofs.YthmcpmnhdbeahaaGreat.D Go.Proofs.YthmcpmnhdbeahaaGreat.P Go.Proofs.YthmcpmnhdbeahaaGreat.V
theorem Zeh (xs:List Int) (hl:xs.length≤1048576):Zae.f xs xs=some true:=by
 have main:=up xs.length (fun k=>Zae.l0 xs xs (k:Int)) (fun k hk=>by
  rw[Zae.l0_eq,if_pos (by omega),if_pos (by omega),if_pos (by omega),if_pos (by omega),if_pos (by omega),if_pos rfl,wn (j:=k) (by omega)])
 simp only[Int.natCast_zero]at main
 rw[Zae.f_eq,if_pos rfl,main,Zae.l0_eq,if_neg (by omega)]
theorem ZlY (A:List (List Int)) (hl:A.length≤1000000000) (hr:∀r∈A,r.length≤1048576):Za6.f A A=some true:=by
 have main:=up A.length (fun k=>Za6.l0 A A (k:Int)) (fun k hk=>by
  rw[Za6.l0_eq,if_pos (by omega),if_pos (by omega),if_pos (by omega),if_pos (by omega),if_pos (by omega),Zeh _ (hr _ (Zgy (by omega) (by omega))),Option.bind_some,if_pos rfl,wn (j:=k) (by omega)])
 simp only[Int.natCast_zero]at main
 rw[Za6.f_eq,if_pos rfl,main,Za6.l0_eq,if_neg (by omega)]
theorem Zlx (R:List (List Int)) (p:Int):R.set p.toNat (row R p)=R:=by
 by_cases h:p.toNat < R.length
 ·
  have:row R p=R[p.toNat]:=by simp[row,List.getD_eq_getElem?_getD,List.getElem?_eq_getElem h]
  rw[this,List.set_getElem_self]
 ·
  exact List.set_eq_of_length_le (by omega)
theorem ZlP {g:List (List Int)} {m:Int} {u v S:List Int} (hg:Grp g) (hm:Mdl g m u) {N:Nat} (hN:(N:Int)=g.length*m) (hN64:N≤64) (hS:S=[]∨Ext g m u v [] S):Zh.l1 0 g m u (extT g m u v N) S=some true:=by
 rcases hS with rfl|hS
 ·
  rw[Zh.l1_eq,if_neg (by simp)]
 have n8:=hg.n8;have m2:=hm.m2;have m12:=hm.m12;have hl:=hS.len
 obtain⟨tl,tr⟩:=Zea g m u v N
 have hp:∀x:Nat,x < g.length→(0≤rd S (x:Int)∧rd S (x:Int) < m)∧wrapI (wrapI (m*(x:Int))+rd S (x:Int))=m*(x:Int)+rd S (x:Int)∧(0≤m*(x:Int)+rd S (x:Int)∧m*(x:Int)+rd S (x:Int) < N)∧(m*(x:Int)+rd S (x:Int)) / m=(x:Int)∧(m*(x:Int)+rd S (x:Int))%m=rd S (x:Int):=fun x hx=>by
  obtain⟨a0,a1⟩:=hS.ent (x:Int) (by omega) (by omega)
  have e1:0≤m*(x:Int):=Int.mul_nonneg (by omega) (by omega)
  have e2:m*(x:Int)≤m*(g.length - 1):=Int.mul_le_mul_of_nonneg_left (by omega) (by omega)
  have e3:m*((g.length:Int) - 1)=g.length*m - m:=by rw[Int.mul_sub,Int.mul_comm];omega
  refine⟨⟨a0,a1⟩,?_,⟨by omega,by omega⟩,?_,?_⟩
  ·
   rw[w64 (x:=m*(x:Int)) (by omega) (by omega),w64 (by omega) (by omega)]
  ·
   rw[Int.mul_add_ediv_left _ _ (by omega),Int.ediv_eq_zero_of_lt a0 a1,Int.add_zero]
  ·
   rw[Int.mul_add_emod_self_left,Int.emod_eq_of_lt a0 a1]
 have main:=up g.length (fun x=>Zh.l1 (x:Int) g m u (extT g m u v N) S) (fun x hx=>by
  obtain⟨⟨a0,a1⟩,wx,⟨x0,x1⟩,dx,mx⟩:=hp x hx
  have rx:=hg.row (x:Int) (by omega) (by omega)
  obtain⟨P,hP⟩:=Int.eq_ofNat_of_zero_le x0
  have hPN:P < N:=by omega
  have inner:=up g.length (fun y=>Zh.l2 (x:Int) (y:Int) g m u (extT g m u v N) S) (fun y hy=>by
   obtain⟨⟨b0,b1⟩,wy,⟨y0,y1⟩,dy,my⟩:=hp y hy
   obtain⟨Q,hQ⟩:=Int.eq_ofNat_of_zero_le y0
   have hQN:Q < N:=by omega
   obtain⟨t0,t1⟩:=hg.ent (x:Int) (y:Int) (by omega) (by omega) (by omega) (by omega)
   obtain⟨k,hk⟩:=Int.eq_ofNat_of_zero_le t0
   have wt:=(hp k (by omega)).2.1
   obtain⟨er,eT⟩:=ext_T (g:=g) (m:=m) (u:=u) (v:=v) hPN hQN
   have hcon:=hS.con (x:Int) (by omega) (by omega) (y:Int) (by omega) (by omega) (by omega)
   have hrl:(row (extT g m u v N) (P:Int)).length=N:=by rw[er,List.length_map,List.length_range]
   have hval:T (extT g m u v N) (P:Int) (Q:Int)=m*(k:Int)+rd S (k:Int):=by
    rw[eT]
    unfold ext
    rw[←hP,←hQ,dx,dy,mx,my,hcon,hk]
   rw[Zh.l2_eq,wx,wy,hP,hQ,hk,wt,hrl,tl,hval,Zlx,wn (j:=y) (by omega)]
   rw[if_pos (by omega),if_pos (by omega),if_pos (by omega),if_pos (by omega),if_pos (by omega),if_pos (by omega),if_pos (by omega),if_pos (by omega),if_pos (by omega),if_pos (by omega),if_pos (by omega),if_pos (by omega),if_pos (by omega),if_pos (by omega),if_pos (by omega),if_pos (by omega),if_pos (by omega),if_pos (by omega),if_pos (by omega),if_pos (by omega),if_pos (by omega),if_pos (by omega),if_pos (by omega),if_pos (by omega),if_pos (by omega),if_pos rfl])
  simp only[Int.natCast_zero]at inner
  rw[Zh.l1_eq,if_pos (by omega),inner,Zh.l2_eq,if_neg (by omega),wn (j:=x) (by omega)])
 simp only[Int.natCast_zero]at main
 rw[main,Zh.l1_eq,if_neg (by omega)]
theorem ZlO {g:List (List Int)} {m:Int} {u v S O:List Int} (hg:Grp g) (hm:Mdl g m u) {N:Nat} (hN:(N:Int)=g.length*m) (hN64:N≤64) (hS:S=[]∨Ext g m u v [] S) (hO:∀p:Nat,p < N→∃k:Nat,rd O (p:Int)=(k:Int)∧1≤k∧k∣N) (hOl:O.length=N):Zh.l0 (N:Int) 0 g m u (extT g m u v N) S O=some true:=by
 have main:=up N (fun p=>Zh.l0 (N:Int) (p:Int) g m u (extT g m u v N) S O) (fun p hp=>by
  obtain⟨k,k1,k2,k3⟩:=hO p hp
  have hz:(N:Int).tmod (k:Int)=0:=by
   rw[ZbW (by omega)]
   exact Int.emod_eq_zero_of_dvd (Int.natCast_dvd_natCast.2 k3)
  rw[Zh.l0_eq,hOl,k1,if_pos (by omega),if_pos (by omega),if_pos (by omega),if_pos (by omega),if_pos (by omega),if_neg (by omega),if_pos hz,wn (j:=p) (by omega)])
 simp only[Int.natCast_zero]at main
 rw[main,Zh.l0_eq,hOl,if_neg (by omega),ZlP hg hm hN hN64 hS]
theorem FnExtensions_pure:∀(c:List Int),c.length≤maxLen→(∀x∈c,(Lit.int .u8 x).wf=true)→Zh.f c=some true:=by
 intro c hl hx
 rw[Zh.f_eq,ZbA.f_eq]
 dsimp only[Option.bind_some]
 by_cases hb:(c.length:Int) > 4096
 ·
  rw[decide_eq_true hb,if_pos rfl]
 rw[decide_eq_false hb,if_neg (by decide)]
 have h:CodeL c:=⟨fun x hx' => by have:=hx x hx';simp[Lit.wf,IntKind.bits,IntKind.signed,IntKind.min,IntKind.max]at this;omega,by omega⟩
 obtain⟨g,m,u,d,v,e1,s1,su,sv⟩:=ZdU h
 obtain⟨R,e,b,S,c3,O,Z,b6,c6,⟨t1,t2⟩,⟨p1,p2⟩,⟨f1,f2⟩,⟨o1,o2⟩,⟨z1,z2⟩,⟨⟨l1,l2⟩,l3,l4,l5⟩,hsem⟩:=Zle g m u d v s1.max.1 s1.max.2 (Zeg (by omega)) (Zeg (by omega))
 rw[e1]
 dsimp only[Option.bind_some]
 rw[t1]
 dsimp only[Option.bind_some]
 rw[t2]
 dsimp only[Option.bind_some]
 rw[if_pos rfl,ZlY R (by omega) l2]
 dsimp only[Option.bind_some]
 rw[if_pos rfl,p1]
 dsimp only[Option.bind_some]
 rw[p2]
 dsimp only[Option.bind_some]
 rw[if_pos rfl,if_pos rfl,f1]
 dsimp only[Option.bind_some]
 rw[f2]
 dsimp only[Option.bind_some]
 rw[if_pos rfl,Zeh S l3]
 dsimp only[Option.bind_some]
 rw[if_pos rfl,o1]
 dsimp only[Option.bind_some]
 rw[o2]
 dsimp only[Option.bind_some]
 rw[if_pos rfl,Zeh O l4]
 dsimp only[Option.bind_some]
 rw[if_pos rfl,z1]
 dsimp only[Option.bind_some]
 rw[z2]
 dsimp only[Option.bind_some]
 rw[if_pos rfl,Zeh Z l5]
 dsimp only[Option.bind_some]
 rw[if_pos rfl]
 rcases hsem with ⟨e0,rfl⟩|⟨rfl,rfl,hg,hm,i1,i2,i3,N,hN,hN64,rfl,hO,hOl,N0,hO0,hZd,hZ0,hS⟩
 ·
  rw[if_neg e0,if_pos (by simp)]
  simp
 have hw:wrapI ((g.length:Int)*m)=(N:Int):=by rw[←hN,w64 (by omega) (by omega)]
 have hd:decide (b=true)=decide (c3=0):=by
  by_cases q:c3=0
  ·
   rw[decide_eq_true q,decide_eq_true (i3.2 q)]
  ·
   rw[decide_eq_false q,decide_eq_false fun h=>q (i3.1 h)]
 have hz:(N:Int).tmod (Z.length:Int)=0:=by
  rw[ZbW (by omega)]
  exact Int.emod_eq_zero_of_dvd (Int.natCast_dvd_natCast.2 hZd)
 have fin:=ZlO (v:=v) hg hm hN hN64 hS hO hOl
 rw[if_pos rfl,i1]
 dsimp only[Option.bind_some]
 rw[hw,if_pos (by rw[(Zea g m u v N).1]),if_pos rfl]
 by_cases q:c6=0
 ·
  rw[if_pos q,i2 q,if_pos rfl,if_pos hd,if_pos rfl,if_pos (by omega),if_pos (by omega),if_pos hO0,if_pos rfl,if_neg (by omega),if_pos hz,fin]
 ·
  rw[if_neg q,if_pos hd,if_pos rfl,if_pos (by omega),if_pos (by omega),if_pos hO0,if_pos rfl,if_neg (by omega),if_pos hz,fin]
end Go.Proofs.YthmcpmnhdbeahaaGreat.Pure
namespace Go.Proofs.YthmcpmnhdbeahaaGreat.shut
theorem mayEnter:Tryz.pinned.checked.prog.mayEnter=true:=by kernel_rfl
theorem lifted:(Rows.fnPairsRow.lifted == Tryz.pinned.checked.prog.liftsFinal)=true:=by kernel_rfl
theorem make:(Tryz.pinned.checked.prog.make == some Rows.fnPairsRow.make)=true:=by kernel_rfl
end Go.Proofs.YthmcpmnhdbeahaaGreat.shut
