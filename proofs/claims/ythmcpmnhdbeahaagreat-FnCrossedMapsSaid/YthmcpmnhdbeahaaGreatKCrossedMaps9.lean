/- What the proof of the law CrossedMaps stands on, part 9: words, each Go function's Lean function, and that the Go code comes to its answers; no condition. (Packed by wip/myprint/pack.py out of what the kit's printer wrote, its words among it, partly by our patches of it, and out of texts of this session.) -/
import Derived.Test.YthmcpmnhdbeahaaGreatKCrossedMaps3
import Derived.Test.YthmcpmnhdbeahaaGreatKCrossedMaps5
import Derived.Test.YthmcpmnhdbeahaaGreatKCrossedMaps6
import Derived.Test.YthmcpmnhdbeahaaGreatKCrossedMaps7
import Derived.Test.YthmcpmnhdbeahaaGreatKCrossedMaps8
set_option linter.unusedVariables false
set_option linter.unusedSimpArgs false
set_option maxHeartbeats 4000000
set_option maxRecDepth 20000
namespace Go.Proofs.YthmcpmnhdbeahaaGreat.V
open Go Go.RowKit Go.Proofs.YthmcpmnhdbeahaaGreat.D Go.Proofs.YthmcpmnhdbeahaaGreat.P
open Go.Sort (swp insInner insOuter insertionSort siftDown heapBuild heapPop heapSort scanUp scanDown partLoop partition partEqLoop partitionEqual scanSorted shiftDown shiftUp partialIns partialInsertionSort reverseLoop reverseRange SWO PermIn SortedIn fixDown fixUp)
variable {H:Value→Prop} {lt:Value→Value→Bool} {C:Value→Value→Option Int}
theorem Al.perm {N a b:Nat} {d d' : Array Value} (hd:Al H N d) (hb:b≤N) (h:PermIn a b d d'):Al H N d' where
 sz:=h.1.trans hd.sz
 all:=fun i hi=>by
  by_cases k:a≤i∧i < b
  ·
   exact Go.Sort.permIn_all d d' a b H (by rw[hd.sz];exact hb) h (fun j h1 h2=>hd.all j (by omega)) i k.1 k.2
  ·
   rw[h.2.1 i (by omega)];exact hd.all i hi
theorem Znh {N:Nat} (hc:Cm H lt C) (hN:N≤1000000000) {x1 x2 x9 x10:Int}:∀(j:Nat) (d:Array Value),j < N→Al H N d →
  _root_.Go.Proofs.YthmcpmnhdbeahaaGreat.R.Zd.l2 x1 x2 C x9 x10 (j:Int) d.toList=_root_.Go.Proofs.YthmcpmnhdbeahaaGreat.R.Zd.j3 x1 x2 C x9 x10 (shiftDown lt j d).toList∧Al H N (shiftDown lt j d):=by
 intro j
 induction j with
 | zero =>
  intro d hj hd
  refine⟨?_,hd⟩
  rw[_root_.Go.Proofs.YthmcpmnhdbeahaaGreat.R.Zd.l2_eq,if_neg (by omega)]
  rfl
 | succ j ih =>
  intro d hj hd
  have hs:=hd.sz
  obtain⟨c,c1,c2⟩:=hc.cmp _ _ (hd.all (j+1) hj) (hd.all j (by omega))
  have e:shiftDown lt (j+1) d=if !lt d[j+1]! d[j]! then d else shiftDown lt j (Go.Sort.swp d (j+1) j):=rfl
  have w1:wrapI (((j+1:Nat):Int) - 1)=(j:Int):=by rw[w64 (by omega) (by omega)];omega
  rw[_root_.Go.Proofs.YthmcpmnhdbeahaaGreat.R.Zd.l2_eq,w1,rdA (i:=j+1) (by omega),rdA (i:=j) (by omega)]
  simp only[List.length_set,Array.length_toList,Int.toNat_natCast,swpL,Nat.add_sub_cancel]
  by_cases h2:lt d[j+1]! d[j]! = true
  ·
   have h3:=c2.2 h2
   obtain⟨i1,i2⟩:=ih (Go.Sort.swp d (j+1) j) (by omega) (hd.swp hj (by omega))
   rw[e.trans (if_neg (by simp[h2]))]
   refine⟨?_,i2⟩
   (with_reducible repeat (first|refine Zq (by first|assumption|omega|rfl|exact B_pos (by omega)) ?_|refine Zp (by first|assumption|omega|decide|exact B_not (by omega)) ?_|refine Zk (by first|assumption) ?_|dsimp only))
   exact i1
  ·
   have h3:¬ c < 0:=fun k=>h2 (c2.1 k)
   rw[e.trans (if_pos (by simp[h2]))]
   refine⟨?_,hd⟩
   (with_reducible repeat (first|refine Zq (by first|assumption|omega|rfl|exact B_pos (by omega)) ?_|refine Zp (by first|assumption|omega|decide|exact B_not (by omega)) ?_|refine Zk (by first|assumption) ?_|dsimp only))
theorem psUp {N:Nat} (hc:Cm H lt C) (hN:N≤1000000000) {x1 x9 x10:Int} {b:Nat} (hb:b≤N):∀(n j:Nat) (d:Array Value),b - j≤n→1≤j→j≤N+1→Al H N d →
  _root_.Go.Proofs.YthmcpmnhdbeahaaGreat.R.Zd.l4 x1 (b:Int) C x9 x10 (j:Int) d.toList=_root_.Go.Proofs.YthmcpmnhdbeahaaGreat.R.Zd.l0 x1 (b:Int) C x9 (wrapI (x10+1)) (shiftUp lt b j d).toList∧Al H N (shiftUp lt b j d):=by
 intro n
 induction n with
 | zero =>
  intro j d hn h1 hj hd
  rw[_root_.Go.Proofs.YthmcpmnhdbeahaaGreat.R.Zd.l4_eq,if_neg (by omega),shiftUp,if_neg (by omega)]
  exact⟨rfl,hd⟩
 | succ n ih =>
  intro j d hn h1 hj hd
  have hs:=hd.sz
  by_cases h:j < b
  ·
   obtain⟨c,c1,c2⟩:=hc.cmp _ _ (hd.all j (by omega)) (hd.all (j - 1) (by omega))
   rw[_root_.Go.Proofs.YthmcpmnhdbeahaaGreat.R.Zd.l4_eq,wP (j:=j) (by omega) (by omega),wn (j:=j) (by omega),rdA (i:=j) (by omega),rdA (i:=j - 1) (by omega)]
   simp only[List.length_set,Array.length_toList,Int.toNat_natCast,swpL,Nat.add_sub_cancel]
   by_cases h2:lt d[j]! d[j - 1]! = true
   ·
    have h3:=c2.2 h2
    obtain⟨i1,i2⟩:=ih (j+1) (Go.Sort.swp d j (j - 1)) (by omega) (by omega) (by omega) (hd.swp (by omega) (by omega))
    have e:shiftUp lt b j d=shiftUp lt b (j+1) (Go.Sort.swp d j (j - 1)):=by rw[shiftUp,if_pos h,if_neg (by simp[h2])]
    rw[e]
    refine⟨?_,i2⟩
    (with_reducible repeat (first|refine Zq (by first|assumption|omega|rfl|exact B_pos (by omega)) ?_|refine Zp (by first|assumption|omega|decide|exact B_not (by omega)) ?_|refine Zk (by first|assumption) ?_|dsimp only))
    exact i1
   ·
    have h3:¬ c < 0:=fun k=>h2 (c2.1 k)
    have e:shiftUp lt b j d=d:=by rw[shiftUp,if_pos h,if_pos (by simp[h2])]
    rw[e]
    refine⟨?_,hd⟩
    (with_reducible repeat (first|refine Zq (by first|assumption|omega|rfl|exact B_pos (by omega)) ?_|refine Zp (by first|assumption|omega|decide|exact B_not (by omega)) ?_|refine Zk (by first|assumption) ?_|dsimp only))
  ·
   rw[_root_.Go.Proofs.YthmcpmnhdbeahaaGreat.R.Zd.l4_eq,if_neg (by omega),shiftUp,if_neg h]
   exact⟨rfl,hd⟩
theorem ZmO {N:Nat} (hc:Cm H lt C) (hN:N≤1000000000) {a b:Nat} (hb:b≤N) {x10:Int} {i:Nat} (hai:a < i) (hib:i≤b) {d:Array Value} (hd:Al H N d)
  (hst:i < b→lt d[i]! d[i - 1]! = true) :
  (i=b→_root_.Go.Proofs.YthmcpmnhdbeahaaGreat.R.Zd.l1 (a:Int) (b:Int) C (i:Int) x10 d.toList=some (true,d.toList)) ∧
  (i < b→b - a < 50→_root_.Go.Proofs.YthmcpmnhdbeahaaGreat.R.Zd.l1 (a:Int) (b:Int) C (i:Int) x10 d.toList=some (false,d.toList)) ∧
  (i < b→¬ b - a < 50→_root_.Go.Proofs.YthmcpmnhdbeahaaGreat.R.Zd.l1 (a:Int) (b:Int) C (i:Int) x10 d.toList=_root_.Go.Proofs.YthmcpmnhdbeahaaGreat.R.Zd.l0 (a:Int) (b:Int) C (i:Int) (wrapI (x10+1)) (fixUp lt b i (fixDown lt a i (Go.Sort.swp d i (i - 1)))).toList∧Al H N (fixUp lt b i (fixDown lt a i (Go.Sort.swp d i (i - 1))))):=by
 have hs:=hd.sz
 refine⟨fun h => ?_,fun h h50 => ?_,fun h h50 => ?_⟩
 ·
  rw[_root_.Go.Proofs.YthmcpmnhdbeahaaGreat.R.Zd.l1_eq,if_neg (by omega),if_pos (by omega)]
 ·
  obtain⟨c,c1,c2⟩:=hc.cmp _ _ (hd.all i (by omega)) (hd.all (i - 1) (by omega))
  have h3:=c2.2 (hst h)
  rw[_root_.Go.Proofs.YthmcpmnhdbeahaaGreat.R.Zd.l1_eq,wP (j:=i) (by omega) (by omega),wS (a:=b) (b:=a) (by omega) (by omega),rdA (i:=i) (by omega),rdA (i:=i - 1) (by omega)]
  simp only[List.length_set,Array.length_toList,Int.toNat_natCast,swpL,Nat.add_sub_cancel]
  (with_reducible repeat (first|refine Zq (by first|assumption|omega|rfl|exact B_pos (by omega)) ?_|refine Zp (by first|assumption|omega|decide|exact B_not (by omega)) ?_|refine Zk (by first|assumption) ?_|dsimp only))
 ·
  obtain⟨c,c1,c2⟩:=hc.cmp _ _ (hd.all i (by omega)) (hd.all (i - 1) (by omega))
  have h3:=c2.2 (hst h)
  have hd1:=hd.swp (i:=i) (j:=i - 1) (by omega) (by omega)
  have up:∀d2:Array Value,Al H N d2→_root_.Go.Proofs.YthmcpmnhdbeahaaGreat.R.Zd.j3 (a:Int) (b:Int) C (i:Int) x10 d2.toList=_root_.Go.Proofs.YthmcpmnhdbeahaaGreat.R.Zd.l0 (a:Int) (b:Int) C (i:Int) (wrapI (x10+1)) (fixUp lt b i d2).toList∧Al H N (fixUp lt b i d2):=fun d2 h2=>by
   unfold fixUp
   rw[_root_.Go.Proofs.YthmcpmnhdbeahaaGreat.R.Zd.j3_eq,wS (a:=b) (b:=i) (by omega) (by omega),wn (j:=i) (by omega)]
   by_cases k:b - i≥2
   ·
    rw[if_pos (by omega),if_pos k]
    exact psUp hc hN hb _ (i+1) d2 (Nat.le_refl _) (by omega) (by omega) h2
   ·
    rw[if_neg (by omega),if_neg k]
    exact⟨rfl,h2⟩
  have dn:(if((i - a:Nat):Int)≥2 then _root_.Go.Proofs.YthmcpmnhdbeahaaGreat.R.Zd.l2 (a:Int) (b:Int) C (i:Int) x10 ((i - 1:Nat):Int) (Go.Sort.swp d i (i - 1)).toList else _root_.Go.Proofs.YthmcpmnhdbeahaaGreat.R.Zd.j3 (a:Int) (b:Int) C (i:Int) x10 (Go.Sort.swp d i (i - 1)).toList)
    = _root_.Go.Proofs.YthmcpmnhdbeahaaGreat.R.Zd.j3 (a:Int) (b:Int) C (i:Int) x10 (fixDown lt a i (Go.Sort.swp d i (i - 1))).toList∧Al H N (fixDown lt a i (Go.Sort.swp d i (i - 1))):=by
   unfold fixDown
   by_cases k:i - a≥2
   ·
    rw[if_pos (by omega),if_pos k]
    exact Znh hc hN (i - 1) _ (by omega) hd1
   ·
    rw[if_neg (by omega),if_neg k]
    exact⟨rfl,hd1⟩
  obtain⟨u1,u2⟩:=up _ dn.2
  refine⟨?_,u2⟩
  rw[_root_.Go.Proofs.YthmcpmnhdbeahaaGreat.R.Zd.l1_eq,wP (j:=i) (by omega) (by omega),wS (a:=b) (b:=a) (by omega) (by omega),wS (a:=i) (b:=a) (by omega) (by omega),rdA (i:=i) (by omega),rdA (i:=i - 1) (by omega)]
  simp only[List.length_set,Array.length_toList,Int.toNat_natCast,swpL,Nat.add_sub_cancel]
  rw[dn.1,u1]
  (with_reducible repeat (first|refine Zq (by first|assumption|omega|rfl|exact B_pos (by omega)) ?_|refine Zp (by first|assumption|omega|decide|exact B_not (by omega)) ?_|refine Zk (by first|assumption) ?_|dsimp only))
theorem Znj {N:Nat} (hc:Cm H lt C) (hN:N≤1000000000) {a b:Nat} (hb:b≤N) {x10:Int} {d:Array Value} (hd:Al H N d):∀(n i:Nat),b - i≤n→a < i→i≤b →
  _root_.Go.Proofs.YthmcpmnhdbeahaaGreat.R.Zd.l1 (a:Int) (b:Int) C (i:Int) x10 d.toList=_root_.Go.Proofs.YthmcpmnhdbeahaaGreat.R.Zd.l1 (a:Int) (b:Int) C ((scanSorted lt d b i:Nat):Int) x10 d.toList∧i≤scanSorted lt d b i∧scanSorted lt d b i≤b∧(scanSorted lt d b i < b→lt d[scanSorted lt d b i]! d[scanSorted lt d b i - 1]! = true):=by
 intro n
 induction n with
 | zero =>
  intro i hn hi hib
  have e:scanSorted lt d b i=i:=by rw[scanSorted,if_neg (by simp;omega)]
  rw[e]
  exact⟨rfl,Nat.le_refl _,hib,fun h=>by omega⟩
 | succ n ih =>
  intro i hn hi hib
  have hs:=hd.sz
  by_cases h:i < b
  ·
   by_cases h2:lt d[i]! d[i - 1]! = true
   ·
    have e:scanSorted lt d b i=i:=by rw[scanSorted,if_neg (by simp[h2])]
    rw[e]
    exact⟨rfl,Nat.le_refl _,hib,fun _=>h2⟩
   ·
    obtain⟨c,c1,c2⟩:=hc.cmp _ _ (hd.all i (by omega)) (hd.all (i - 1) (by omega))
    have h3:¬ c < 0:=fun k=>h2 (c2.1 k)
    have e:scanSorted lt d b i=scanSorted lt d b (i+1):=by rw[scanSorted,if_pos (by simp[h,h2])]
    obtain⟨i1,i2,i3,i4⟩:=ih (i+1) (by omega) (by omega) (by omega)
    rw[e]
    refine⟨?_,by omega,i3,i4⟩
    rw[←i1]
    conv=>lhs;rw[_root_.Go.Proofs.YthmcpmnhdbeahaaGreat.R.Zd.l1_eq]
    rw[wP (j:=i) (by omega) (by omega),wn (j:=i) (by omega),rdA (i:=i) (by omega),rdA (i:=i - 1) (by omega)]
    simp only[List.length_set,Array.length_toList,Int.toNat_natCast,swpL,Nat.add_sub_cancel]
    (with_reducible repeat (first|refine Zq (by first|assumption|omega|rfl|exact B_pos (by omega)) ?_|refine Zp (by first|assumption|omega|decide|exact B_not (by omega)) ?_|refine Zk (by first|assumption) ?_|dsimp only))
  ·
   have e:scanSorted lt d b i=i:=by rw[scanSorted,if_neg (by simp;omega)]
   rw[e]
   exact⟨rfl,Nat.le_refl _,hib,fun k=>absurd k h⟩
theorem Zni {N:Nat} (hc:Cm H lt C) (hN:N≤1000000000) {a b:Nat} (hb:b≤N):∀(s k i:Nat) (d:Array Value),k+s=5→a < i→i≤b→Al H N d →
  _root_.Go.Proofs.YthmcpmnhdbeahaaGreat.R.Zd.l0 (a:Int) (b:Int) C (i:Int) (k:Int) d.toList=some ((partialIns lt a b s i d).2,(partialIns lt a b s i d).1.toList):=by
 intro s
 induction s with
 | zero =>
  intro k i d hk hi hib hd
  rw[_root_.Go.Proofs.YthmcpmnhdbeahaaGreat.R.Zd.l0_eq,if_neg (by omega)]
  rfl
 | succ s ih =>
  intro k i d hk hi hib hd
  obtain⟨s1,s2,s3,s4⟩:=Znj hc hN hb (x10:=(k:Int)) hd _ i (Nat.le_refl _) hi hib
  rw[_root_.Go.Proofs.YthmcpmnhdbeahaaGreat.R.Zd.l0_eq,if_pos (by omega),s1,Go.Sort.partialIns_succ]
  obtain⟨a1,a2,a3⟩:=ZmO hc hN hb (x10:=(k:Int)) (a:=a) (i:=scanSorted lt d b i) (by omega) s3 hd s4
  by_cases h:scanSorted lt d b i=b
  ·
   rw[if_pos h,a1 h]
  ·
   rw[if_neg h]
   by_cases h2:b - a < 50
   ·
    rw[if_pos h2,a2 (by omega) h2]
   ·
    rw[if_neg h2]
    obtain⟨u1,u2⟩:=a3 (by omega) h2
    rw[u1,wn (j:=k) (by omega)]
    exact ih _ _ _ (by omega) (by omega) s3 u2
theorem psF {N:Nat} (hc:Cm H lt C) (hN:N≤1000000000) {a b:Nat} (hab:a < b) (hb:b≤N) {d:Array Value} (hd:Al H N d) :
  _root_.Go.Proofs.YthmcpmnhdbeahaaGreat.R.Zd.f d.toList (a:Int) (b:Int) C=some ((partialInsertionSort lt d a b).2,(partialInsertionSort lt d a b).1.toList):=by
 rw[_root_.Go.Proofs.YthmcpmnhdbeahaaGreat.R.Zd.f_eq,wn (j:=a) (by omega)]
 exact Zni hc hN hb 5 0 (a+1) d rfl (by omega) (by omega) hd
theorem ord2 {N:Nat} (hc:Cm H lt C) {d:Array Value} (hd:Al H N d) {a b:Nat} (ha:a < N) (hb:b < N) (s:Int) :
  ∃(x y:Nat) (s' : Int),_root_.Go.Proofs.YthmcpmnhdbeahaaGreat.R.ZR.f d.toList (a:Int) (b:Int) s C=some ((x:Int),(y:Int),s')∧((x=a∧y=b)∨(x=b∧y=a)):=by
 have hs:=hd.sz
 obtain⟨c,c1,c2⟩:=hc.cmp _ _ (hd.all b hb) (hd.all a ha)
 rw[_root_.Go.Proofs.YthmcpmnhdbeahaaGreat.R.ZR.f_eq,rdA (i:=a) (by omega),rdA (i:=b) (by omega)]
 simp only[List.length_set,Array.length_toList,Int.toNat_natCast,swpL,Nat.add_sub_cancel]
 by_cases h:c < 0
 ·
  refine⟨b,a,wrapI (s+1),?_,.inr ⟨rfl,rfl⟩⟩
  (with_reducible repeat (first|refine Zq (by first|assumption|omega|rfl|exact B_pos (by omega)) ?_|refine Zp (by first|assumption|omega|decide|exact B_not (by omega)) ?_|refine Zk (by first|assumption) ?_|dsimp only))
 ·
  refine⟨a,b,s,?_,.inl ⟨rfl,rfl⟩⟩
  (with_reducible repeat (first|refine Zq (by first|assumption|omega|rfl|exact B_pos (by omega)) ?_|refine Zp (by first|assumption|omega|decide|exact B_not (by omega)) ?_|refine Zk (by first|assumption) ?_|dsimp only))
theorem med {N:Nat} (hc:Cm H lt C) {d:Array Value} (hd:Al H N d) {a b c:Nat} (ha:a < N) (hb:b < N) (hcN:c < N) (s:Int) :
  ∃(x:Nat) (s' : Int),_root_.Go.Proofs.YthmcpmnhdbeahaaGreat.R.ZK.f d.toList (a:Int) (b:Int) (c:Int) s C=some ((x:Int),s')∧(x=a∨x=b∨x=c):=by
 obtain⟨x1,y1,s1,e1,k1⟩:=ord2 hc hd ha hb s
 obtain⟨x2,y2,s2,e2,k2⟩:=ord2 hc hd (a:=y1) (b:=c) (by omega) hcN s1
 obtain⟨x3,y3,s3,e3,k3⟩:=ord2 hc hd (a:=x1) (b:=x2) (by omega) (by omega) s2
 refine⟨y3,s3,?_,by omega⟩
 rw[_root_.Go.Proofs.YthmcpmnhdbeahaaGreat.R.ZK.f_eq,map_id', e1]
 dsimp only[Option.bind_some]
 rw[e2]
 dsimp only[Option.bind_some]
 rw[e3]
 rfl
theorem medA {N:Nat} (hc:Cm H lt C) (hN:N≤1000000000) {d:Array Value} (hd:Al H N d) {a:Nat} (h1:1≤a) (ha:a+1 < N) (s:Int) :
  ∃(x:Nat) (s' : Int),_root_.Go.Proofs.YthmcpmnhdbeahaaGreat.R.Zz.f d.toList (a:Int) s C=some ((x:Int),s')∧(x=a - 1∨x=a∨x=a+1):=by
 obtain⟨x,s', e,k⟩:=med hc hd (a:=a - 1) (b:=a) (c:=a+1) (by omega) (by omega) ha s
 refine⟨x,s', ?_,k⟩
 rw[_root_.Go.Proofs.YthmcpmnhdbeahaaGreat.R.Zz.f_eq,map_id', wP (j:=a) (by omega) (by omega),wn (j:=a) (by omega),e]
 rfl
theorem pivF {N:Nat} (hc:Cm H lt C) (hN:N≤1000000000) {a b:Nat} (hab:a < b) (hb:b≤N) {d:Array Value} (hd:Al H N d) :
  ∃(x:Nat) (h:Int),_root_.Go.Proofs.YthmcpmnhdbeahaaGreat.R.ZF.f d.toList (a:Int) (b:Int) C=some ((x:Int),h)∧a≤x∧x < b:=by
 have t4:((b - a:Nat):Int).tdiv 4=((((b - a) / 4:Nat)):Int):=by rw[Int.tdiv_eq_ediv_of_nonneg (by omega)];omega
 have m1:∀q:Nat,q≤N→∀k:Nat,k≤3→wrapI ((q:Int)*(k:Int))=((q*k:Nat):Int):=fun q hq k hk=>by
  have:q*k≤N*3:=Nat.mul_le_mul hq hk
  rw[w64 (by omega) (by rw[←Int.natCast_mul];omega),Int.natCast_mul]
 have e1:=m1 ((b - a) / 4) (by omega) 1 (by omega)
 have e2:=m1 ((b - a) / 4) (by omega) 2 (by omega)
 have e3:=m1 ((b - a) / 4) (by omega) 3 (by omega)
 rw[_root_.Go.Proofs.YthmcpmnhdbeahaaGreat.R.ZF.f_eq,wS (a:=b) (b:=a) (by omega) (by omega),t4,w64 (x:=(((b - a) / 4:Nat):Int)) (by omega) (by omega)]
 rw[show(((b - a) / 4:Nat):Int)*1=(((b - a) / 4:Nat):Int)*((1:Nat):Int)from rfl,show(((b - a) / 4:Nat):Int)*2=(((b - a) / 4:Nat):Int)*((2:Nat):Int)from rfl,show(((b - a) / 4:Nat):Int)*3=(((b - a) / 4:Nat):Int)*((3:Nat):Int)from rfl,e1,e2,e3,
  wA (a:=a) (b:=(b - a) / 4*1) (by omega),wA (a:=a) (b:=(b - a) / 4*2) (by omega),wA (a:=a) (b:=(b - a) / 4*3) (by omega),map_id']
 have fin:∀(x:Nat) (s:Int),∃h:Int,(if s=0 then some ((x:Int),(1:Int))else(if s=12 then some ((x:Int),2)else some ((x:Int),0)))=some ((x:Int),h):=fun x s=>by
  by_cases h:s=0
  ·
   exact⟨1,by rw[if_pos h]⟩
  ·
   by_cases h2:s=12
   ·
    exact⟨2,by rw[if_neg h,if_pos h2]⟩
   ·
    exact⟨0,by rw[if_neg h,if_neg h2]⟩
 by_cases h8:b - a≥8
 ·
  rw[if_pos (by omega)]
  by_cases h50:b - a≥50
  ·
   rw[if_pos (by omega)]
   obtain⟨x1,s1,f1,k1⟩:=medA hc hN hd (a:=a+(b - a) / 4*1) (by omega) (by omega) 0
   obtain⟨x2,s2,f2,k2⟩:=medA hc hN hd (a:=a+(b - a) / 4*2) (by omega) (by omega) s1
   obtain⟨x3,s3,f3,k3⟩:=medA hc hN hd (a:=a+(b - a) / 4*3) (by omega) (by omega) s2
   obtain⟨x4,s4,f4,k4⟩:=med hc hd (a:=x1) (b:=x2) (c:=x3) (by omega) (by omega) (by omega) s3
   obtain⟨h,fh⟩:=fin x4 s4
   refine⟨x4,h,?_,by omega,by omega⟩
   rw[f1]
   dsimp only[Option.bind_some]
   rw[f2]
   dsimp only[Option.bind_some]
   rw[f3]
   dsimp only[Option.bind_some]
   rw[f4]
   dsimp only[Option.bind_some]
   exact fh
  ·
   rw[if_neg (by omega)]
   obtain⟨x4,s4,f4,k4⟩:=med hc hd (a:=a+(b - a) / 4*1) (b:=a+(b - a) / 4*2) (c:=a+(b - a) / 4*3) (by omega) (by omega) (by omega) 0
   obtain⟨h,fh⟩:=fin x4 s4
   refine⟨x4,h,?_,by omega,by omega⟩
   rw[f4]
   dsimp only[Option.bind_some]
   exact fh
 ·
  rw[if_neg (by omega)]
  exact⟨a+(b - a) / 4*2,1,rfl,by omega,by omega⟩
theorem wr_id {x:Int} (h0:0≤x) (h1:x < 18446744073709551616):wr .u64 x=x:=by
 show hid _=_
 rw[ZcE]
 simp[IntKind.wrap,IntKind.bits,IntKind.signed]
 omega
theorem Zm4 (x:Int) {m:Nat} (hm:m < 18446744073709551616):∃o:Nat,andI .u64 x (m:Int)=(o:Int)∧o≤m:=by
 have hlt:(BitVec.ofInt 64 x &&& BitVec.ofInt 64 (m:Int)).toNat≤m:=by
  rw[BitVec.toNat_and]
  refine Nat.le_trans Nat.and_le_right ?_
  rw[BitVec.toNat_ofInt]
  omega
 refine⟨(BitVec.ofInt 64 x &&& BitVec.ofInt 64 (m:Int)).toNat,?_,hlt⟩
 show hid _=_
 rw[ZcE]
 show wr .u64 (((BitVec.ofInt 64 x &&& BitVec.ofInt 64 (m:Int)).toNat:Nat):Int)=_
 exact wr_id (by omega) (by omega)
theorem brkL {N:Nat} (hN:N≤1000000000) {a b m:Nat} (h8:8≤b - a) (hb:b≤N) (m0:1≤m) (m1:m≤2*(b - a)):∀(n i:Nat) (d:Array Value) (r:Int),a+(b - a) / 4*2+2 - i≤n→a≤i→i≤a+(b - a) / 4*2+2→Al H N d →
  ∃d', _root_.Go.Proofs.YthmcpmnhdbeahaaGreat.R.Zo.l0 (a:Int) ((b - a:Nat):Int) (m:Int) (i:Int) d.toList r=some d'.toList∧PermIn a b d d' := by
 have t4:((b - a:Nat):Int).tdiv 4=((((b - a) / 4:Nat)):Int):=by rw[Int.tdiv_eq_ediv_of_nonneg (by omega)];omega
 have e2:wrapI ((((b - a) / 4:Nat):Int)*2)=(((b - a) / 4*2:Nat):Int):=by rw[w64 (by omega) (by omega)];omega
 have e3:wrapI (((a+(b - a) / 4*2:Nat):Int)+1)=((a+(b - a) / 4*2+1:Nat):Int):=wn (by omega)
 intro n
 induction n with
 | zero =>
  intro i d r hn hi hi2 hd
  refine⟨d,?_,Go.Sort.permIn_refl d a b⟩
  rw[_root_.Go.Proofs.YthmcpmnhdbeahaaGreat.R.Zo.l0_eq,t4,w64 (x:=(((b - a) / 4:Nat):Int)) (by omega) (by omega),e2,wA (a:=a) (b:=(b - a) / 4*2) (by omega),e3,if_neg (by omega)]
 | succ n ih =>
  intro i d r hn hi hi2 hd
  have hs:=hd.sz
  by_cases h:i≤a+(b - a) / 4*2+1
  ·
   have hib:i < b:=by omega
   obtain⟨r1,hr⟩:∃r1,_root_.Go.Proofs.YthmcpmnhdbeahaaGreat.R.Zay.f r=some (r1,r1):=⟨_,_root_.Go.Proofs.YthmcpmnhdbeahaaGreat.R.Zay.f_eq r⟩
   obtain⟨o,ho,om⟩:=Zm4 r1 (m:=m - 1) (by omega)
   have wm:wr .u64 ((m:Int) - 1)=((m - 1:Nat):Int):=by rw[wr_id (by omega) (by omega)];omega
   rw[_root_.Go.Proofs.YthmcpmnhdbeahaaGreat.R.Zo.l0_eq,t4,w64 (x:=(((b - a) / 4:Nat):Int)) (by omega) (by omega),e2,wA (a:=a) (b:=(b - a) / 4*2) (by omega),e3,if_pos (by omega),hr]
   dsimp only[Option.bind_some]
   rw[wm,ho,w64 (x:=(o:Int)) (by omega) (by omega),wn (j:=i) (by omega),rdA (i:=i) (by omega)]
   by_cases h2:o≥b - a
   ·
    rw[if_pos (by omega),wS (a:=o) (b:=b - a) (by omega) (by omega),wA (a:=a) (b:=o - (b - a)) (by omega),rdA (i:=a+(o - (b - a))) (by omega)]
    simp only[List.length_set,Array.length_toList,Int.toNat_natCast,swpL,Nat.add_sub_cancel]
    obtain⟨d', d1,d2⟩:=ih (i+1) (Go.Sort.swp d i (a+(o - (b - a)))) r1 (by omega) (by omega) (by omega) (hd.swp (by omega) (by omega))
    refine⟨d', ?_,Go.Sort.permIn_trans _ _ _ a b (Go.Sort.swp_permIn d a b i (a+(o - (b - a))) hi hib (by omega) (by omega) (by omega)) d2⟩
    (with_reducible repeat (first|refine Zq (by first|assumption|omega|rfl|exact B_pos (by omega)) ?_|refine Zp (by first|assumption|omega|decide|exact B_not (by omega)) ?_|refine Zk (by first|assumption) ?_|dsimp only))
    exact d1
   ·
    rw[if_neg (by omega),wA (a:=a) (b:=o) (by omega),rdA (i:=a+o) (by omega)]
    simp only[List.length_set,Array.length_toList,Int.toNat_natCast,swpL,Nat.add_sub_cancel]
    obtain⟨d', d1,d2⟩:=ih (i+1) (Go.Sort.swp d i (a+o)) r1 (by omega) (by omega) (by omega) (hd.swp (by omega) (by omega))
    refine⟨d', ?_,Go.Sort.permIn_trans _ _ _ a b (Go.Sort.swp_permIn d a b i (a+o) hi hib (by omega) (by omega) (by omega)) d2⟩
    (with_reducible repeat (first|refine Zq (by first|assumption|omega|rfl|exact B_pos (by omega)) ?_|refine Zp (by first|assumption|omega|decide|exact B_not (by omega)) ?_|refine Zk (by first|assumption) ?_|dsimp only))
    exact d1
  ·
   refine⟨d,?_,Go.Sort.permIn_refl d a b⟩
   rw[_root_.Go.Proofs.YthmcpmnhdbeahaaGreat.R.Zo.l0_eq,t4,w64 (x:=(((b - a) / 4:Nat):Int)) (by omega) (by omega),e2,wA (a:=a) (b:=(b - a) / 4*2) (by omega),e3,if_neg (by omega)]
theorem npow {L:Nat} (h0:0 < L) (h1:L≤1000000000):∃m:Nat,_root_.Go.Proofs.YthmcpmnhdbeahaaGreat.R.Zar.f (L:Int)=some (m:Int)∧1≤m∧m≤2*L:=by
 obtain⟨b1,b2,b3⟩:=Lib.bitLenAux_bounds 64 L (by omega) (by omega)
 have e:Lib.bitLenAux 64 L - 1+1=Lib.bitLenAux 64 L:=by omega
 have hp:2 ^ Lib.bitLenAux 64 L≤2*L:=by rw[←e,Nat.pow_succ];omega
 have hk:Lib.bitLenAux 64 L≤64:=by
  have:=Lib.bitLenAux_le 64 L 64 (by omega)
  exact this
 refine⟨2 ^ Lib.bitLenAux 64 L,?_,Nat.one_le_two_pow,hp⟩
 rw[_root_.Go.Proofs.YthmcpmnhdbeahaaGreat.R.Zar.f_eq,wr_id (by omega) (by omega)]
 unfold _root_.Go.Proofs.YthmcpmnhdbeahaaGreat.R.bits_Len.f
 rw[if_pos (by omega),Option.bind_some,if_neg (by omega)]
 congr 1
 show hid _=_
 rw[ZcE,Int.toNat_natCast]
 show wr .u64 (1*2 ^ (min ((Lib.bitLenAux 64 L:Int)).toNat 64))=_
 rw[Int.toNat_natCast,Nat.min_eq_left hk,Int.one_mul,show(2:Int) ^ Lib.bitLenAux 64 L=((2 ^ Lib.bitLenAux 64 L:Nat):Int)by rw[Int.natCast_pow];rfl]
 exact wr_id (by omega) (by omega)
theorem brkF {N:Nat} (hN:N≤1000000000) {a b:Nat} (hab:a < b) (hb:b≤N) {d:Array Value} (hd:Al H N d) :
  ∃d', _root_.Go.Proofs.YthmcpmnhdbeahaaGreat.R.Zo.f d.toList (a:Int) (b:Int) C=some d'.toList∧PermIn a b d d' := by
 rw[_root_.Go.Proofs.YthmcpmnhdbeahaaGreat.R.Zo.f_eq,wS (a:=b) (b:=a) (by omega) (by omega)]
 by_cases h8:8≤b - a
 ·
  have t4:((b - a:Nat):Int).tdiv 4=((((b - a) / 4:Nat)):Int):=by rw[Int.tdiv_eq_ediv_of_nonneg (by omega)];omega
  have e2:wrapI ((((b - a) / 4:Nat):Int)*2)=(((b - a) / 4*2:Nat):Int):=by rw[w64 (by omega) (by omega)];omega
  obtain⟨m,n1,n2,n3⟩:=npow (L:=b - a) (by omega) (by omega)
  rw[if_pos (by omega),n1,Option.bind_some,t4,w64 (x:=(((b - a) / 4:Nat):Int)) (by omega) (by omega),e2,wA (a:=a) (b:=(b - a) / 4*2) (by omega),wP (j:=a+(b - a) / 4*2) (by omega) (by omega)]
  exact brkL hN h8 hb n2 n3 _ (a+(b - a) / 4*2 - 1) d _ (Nat.le_refl _) (by omega) (by omega) hd
 ·
  rw[if_neg (by omega)]
  exact⟨d,rfl,Go.Sort.permIn_refl d a b⟩
end Go.Proofs.YthmcpmnhdbeahaaGreat.V
set_option maxHeartbeats 8000000
namespace Go.Proofs.YthmcpmnhdbeahaaGreat.V
open Go Go.RowKit Go.Proofs.YthmcpmnhdbeahaaGreat.D Go.Proofs.YthmcpmnhdbeahaaGreat.P
open Go.Sort (swp insertionSort heapSort partition partitionEqual partialInsertionSort reverseRange SWO PermIn SortedIn)
variable {H:Value→Prop} {lt:Value→Value→Bool} {C:Value→Value→Option Int}
def Res (lt:Value→Value→Bool) (a b:Nat) (d:Array Value) (X:Option (List Value)):Prop:=∃d', X=some d'.toList∧PermIn a b d d' ∧ SortedIn lt a b d'
theorem Res.tr {a b:Nat} {d d1:Array Value} {X:Option (List Value)} (h:Res lt a b d1 X) (hp:PermIn a b d d1):Res lt a b d X:=by
 obtain⟨d', h1,h2,h3⟩:=h
 exact⟨d', h1,Go.Sort.permIn_trans _ _ _ a b hp h2,h3⟩
theorem Zco {a b:Nat} {d:Array Value} {X Y:Option (List Value)} (h:X=Y) (k:Res lt a b d Y):Res lt a b d X:=by rw[h];exact k
theorem pdqTail {N n:Nat} (hc:Cm H lt C) (hN:N≤1000000000) {a b:Nat} (hb:b≤N)
    (IH:∀(a' b' : Nat) (lim:Int) (wb wp:Bool) (d:Array Value),b' - a' < b - a→a' ≤ b' → b' ≤ N→Al H N d→Go.Sort.Below lt a' b' d→Res lt a' b' d (_root_.Go.Proofs.YthmcpmnhdbeahaaGreat.R.Za.l0 n (a' : Int) (b' : Int) lim C wb wp d.toList))
    (HF:∀(a' b' : Nat) (lim:Int) (d:Array Value),b' - a' < 2 ^ n→b' - a' < b - a→a' ≤ b' → b' ≤ N→Al H N d→Go.Sort.Below lt a' b' d→Res lt a' b' d (_root_.Go.Proofs.YthmcpmnhdbeahaaGreat.R.Za.f n d.toList (a' : Int) (b' : Int) lim C))
    (hlen:12 < b - a) (hfu:b - a < 2 ^ (n+1)) {lim:Int} {piv:Nat} (p1:a≤piv) (p2:piv < b) {d3:Array Value} (hd:Al H N d3) (hB:Go.Sort.Below lt a b d3) :
    (∃(c:Int) (mid:Nat) (d4:Array Value),0 < a∧C d3[a - 1]! d3[piv]! = some c∧¬ c < 0∧_root_.Go.Proofs.YthmcpmnhdbeahaaGreat.R.Zf.f d3.toList (a:Int) (b:Int) (piv:Int) C=some ((mid:Int),d4.toList) ∧
      ∀wb wp,Res lt a b d3 (_root_.Go.Proofs.YthmcpmnhdbeahaaGreat.R.Za.l0 n (mid:Int) (b:Int) lim C wb wp d4.toList)) ∨
    (∃ (mid:Nat) (ap:Bool) (d4:Array Value),(a=0∨(0 < a∧∃c:Int,C d3[a - 1]! d3[piv]! = some c∧c < 0))∧a≤mid∧mid < b∧_root_.Go.Proofs.YthmcpmnhdbeahaaGreat.R.Ze.f d3.toList (a:Int) (b:Int) (piv:Int) C=some ((mid:Int),ap,d4.toList) ∧
      ((mid - a < b - mid∧∃d5:Array Value,_root_.Go.Proofs.YthmcpmnhdbeahaaGreat.R.Za.f n d4.toList (a:Int) (mid:Int) lim C=some d5.toList∧∀wb wp,Res lt a b d3 (_root_.Go.Proofs.YthmcpmnhdbeahaaGreat.R.Za.l0 n ((mid+1:Nat):Int) (b:Int) lim C wb wp d5.toList)) ∨
       (¬ mid - a < b - mid∧∃d5:Array Value,_root_.Go.Proofs.YthmcpmnhdbeahaaGreat.R.Za.f n d4.toList ((mid+1:Nat):Int) (b:Int) lim C=some d5.toList∧∀wb wp,Res lt a b d3 (_root_.Go.Proofs.YthmcpmnhdbeahaaGreat.R.Za.l0 n (a:Int) (mid:Int) lim C wb wp d5.toList)))):=by
  have hs:=hd.sz
  by_cases hq:0 < a∧lt d3[a - 1]! d3[piv]! = false
  · obtain ⟨a0,hnl⟩:=hq
    obtain⟨c,c1,c2⟩:=hc.cmp _ _ (hd.all (a - 1) (by omega)) (hd.all piv (by omega))
    have hc2:¬ c < 0:=fun k=>by have:=c2.1 k;rw[hnl]at this;cases this
    obtain⟨mid,d4,hx⟩:∃mid d4,partitionEqual lt d3 a b piv=(mid,d4):=⟨_,_,rfl⟩
    obtain⟨k1,k2,k3,k4,k5⟩:=Go.Sort.round_eq hc.swo (Go.Sort.partitionEqual_holds lt) a0 p1 p2 (by omega) hB hnl hx
    have e1:=peF hc hN p1 p2 hb hd
    rw[hx]at e1
    have hk:=Go.Sort.partitionEqual_holds lt hc.swo d3 a b piv p1 p2 (by omega)
    have hp:PermIn a b d3 d4:=by
      have hB' : ∀i,a≤i→i < b→lt d3[i]! d3[piv]! = false:=fun i h1 h2=>by
        rcases hB with h|h
        · omega
        · exact hc.swo.ntrans _ _ _ (h i h1 h2) hnl
      have:=(hk hB').2.2.1
      rw[hx]at this
      exact this
    refine .inl ⟨c,mid,d4,a0,c1,hc2,e1,fun wb wp => ?_⟩
    obtain⟨d', r1,r2,r3⟩:=IH mid b lim wb wp d4 (by omega) k2 hb (hd.perm hb hp) k4
    obtain⟨q1,q2⟩:=k5 d' r2 r3
    exact⟨d', r1,q1,q2⟩
  · have hq' : a=0∨(0 < a∧∃c:Int,C d3[a - 1]! d3[piv]! = some c∧c < 0):=by
      by_cases a0:a=0
      · exact .inl a0
      · obtain⟨c,c1,c2⟩:=hc.cmp _ _ (hd.all (a - 1) (by omega)) (hd.all piv (by omega))
        refine .inr ⟨by omega,c,c1,c2.2 ?_⟩
        cases h:lt d3[a - 1]! d3[piv]! with
        | true=>rfl
        | false=>exact absurd ⟨by omega,h⟩ hq
    obtain⟨mid,ap,d4,hx⟩:∃mid ap d4,partition lt d3 a b piv=(mid,ap,d4):=⟨_,_,_,rfl⟩
    have rp:=Go.Sort.round_part hc.swo (Go.Sort.partition_holds lt) p1 p2 (by omega) hB hx
    have e1:=partF hc hN p1 p2 hb hd
    rw[hx]at e1
    have hp:PermIn a b d3 d4:=by
      have:=(Go.Sort.partition_holds lt hc.swo d3 a b piv p1 p2 (by omega)).2.2.1
      rw[hx]at this
      exact this
    have hd4:=hd.perm hb hp
    obtain⟨k1,k2,k3,k4,k5,k6,k7⟩:=rp
    refine .inr ⟨mid,ap,d4,hq', k1,k2,e1,?_⟩
    by_cases hl:mid - a < b - mid
    · obtain⟨d5,f1,f2,f3⟩:=HF a mid lim d4 (by rw[Nat.pow_succ]at hfu;omega) (by omega) k1 (by omega) hd4 k4
      refine .inl ⟨hl,d5,f1,fun wb wp => ?_⟩
      obtain⟨hB5,k8⟩:=k6 d5 f2 f3
      obtain⟨d', r1,r2,r3⟩:=IH (mid+1) b lim wb wp d5 (by omega) (by omega) hb (hd4.perm (by omega) f2) hB5
      exact⟨d', r1,k8 d' r2 r3⟩
    · obtain⟨d5,f1,f2,f3⟩:=HF (mid+1) b lim d4 (by rw[Nat.pow_succ]at hfu;omega) (by omega) (by omega) hb hd4 k5
      refine .inr ⟨hl,d5,f1,fun wb wp => ?_⟩
      obtain⟨hB5,k8⟩:=k7 d5 f2 f3
      obtain⟨d', r1,r2,r3⟩:=IH a mid lim wb wp d5 (by omega) k1 (by omega) (hd4.perm hb f2) hB5
      exact⟨d', r1,k8 d' r2 r3⟩
theorem pdqL {N:Nat} (hc:Cm H lt C) (hN:N≤1000000000):∀(n s a b:Nat) (lim:Int) (wb wp:Bool) (d:Array Value),b - a≤s→b - a < 2 ^ (n+1)→a≤b→b≤N→Al H N d→Go.Sort.Below lt a b d →
  Res lt a b d (_root_.Go.Proofs.YthmcpmnhdbeahaaGreat.R.Za.l0 n (a:Int) (b:Int) lim C wb wp d.toList):=by
 intro n
 induction n with
 | zero =>
  intro s a b lim wb wp d hs hfu hab hb hd hB
  obtain⟨d', h1,h2,h3⟩:=insS hc hN hab hb hd
  refine⟨d', ?_,h2,h3⟩
  rw[_root_.Go.Proofs.YthmcpmnhdbeahaaGreat.R.Za.l0_eq,wS (a:=b) (b:=a) (by omega) (by omega),if_pos (by omega),map_id', h1]
  rfl
 | succ m ihm =>
  intro s
  induction s with
  | zero =>
   intro a b lim wb wp d hs hfu hab hb hd hB
   obtain⟨d', h1,h2,h3⟩:=insS hc hN hab hb hd
   refine⟨d', ?_,h2,h3⟩
   rw[_root_.Go.Proofs.YthmcpmnhdbeahaaGreat.R.Za.l0_eq,wS (a:=b) (b:=a) (by omega) (by omega),if_pos (by omega),map_id', h1]
   rfl
  | succ s ihs =>
   intro a b lim wb wp d hs hfu hab hb hd hB
   by_cases h12:b - a≤12
   ·
    obtain⟨d', h1,h2,h3⟩:=insS hc hN hab hb hd
    refine⟨d', ?_,h2,h3⟩
    rw[_root_.Go.Proofs.YthmcpmnhdbeahaaGreat.R.Za.l0_eq,wS (a:=b) (b:=a) (by omega) (by omega),if_pos (by omega),map_id', h1]
    rfl
   have hab' : a < b:=by omega
   by_cases hlim:lim=0
   ·
    obtain⟨d', h1,h2,h3⟩:=heapS hc hN hab' hb hd
    refine⟨d', ?_,h2,h3⟩
    rw[_root_.Go.Proofs.YthmcpmnhdbeahaaGreat.R.Za.l0_eq,wS (a:=b) (b:=a) (by omega) (by omega),if_neg (by omega),if_pos hlim,map_id', h1]
    rfl
   have IH:∀(a' b' : Nat) (lim:Int) (wb wp:Bool) (d:Array Value),b' - a' < b - a→a' ≤ b' → b' ≤ N→Al H N d→Go.Sort.Below lt a' b' d→Res lt a' b' d (_root_.Go.Proofs.YthmcpmnhdbeahaaGreat.R.Za.l0 (m+1) (a' : Int) (b' : Int) lim C wb wp d.toList):=fun a' b' lim wb wp d h1 h2 h3 h4 h5=>ihs a' b' lim wb wp d (by omega) (by omega) h2 h3 h4 h5
   have HF:∀(a' b' : Nat) (lim:Int) (d:Array Value),b' - a' < 2 ^ (m+1)→b' - a' < b - a→a' ≤ b' → b' ≤ N→Al H N d→Go.Sort.Below lt a' b' d→Res lt a' b' d (_root_.Go.Proofs.YthmcpmnhdbeahaaGreat.R.Za.f (m+1) d.toList (a' : Int) (b' : Int) lim C):=fun a' b' lim d h0 h1 h2 h3 h4 h5=>by
    rw[_root_.Go.Proofs.YthmcpmnhdbeahaaGreat.R.Za.f_eq]
    exact ihm _ a' b' lim true true d (Nat.le_refl _) h0 h2 h3 h4 h5
   cases wb with
   | true =>
    obtain⟨x,h,hx,x1,x2⟩:=pivF hc hN hab' hb hd
    by_cases hh:h=2
    ·
     obtain⟨d2,v1,v2⟩:=revS (C:=C) hN hab' hb hd
     have hd2:=hd.perm hb v2
     have hB2:=hB.perm (by rw[hd.sz];exact hb) v2
     cases wp with
     | false =>
      have hs3:=hd2.sz
      rcases pdqTail hc hN hb IH HF (by omega) hfu (lim:=lim) (piv:=(b - 1 - (x - a))) (by omega) (by omega) hd2 hB2 with ⟨c,mid,d4,a0,c1,c2,e1,rec⟩|⟨mid,ap,d4,q,m1,m2,e1,r⟩
      ·
       refine Zco (Y:=_root_.Go.Proofs.YthmcpmnhdbeahaaGreat.R.Za.l0 (m+1) (mid:Int) (b:Int) lim C true false d4.toList) ?_ ((rec _ _).tr v2)
       rw[_root_.Go.Proofs.YthmcpmnhdbeahaaGreat.R.Za.l0_eq,wS (a:=b) (b:=a) (by omega) (by omega),map_id', if_neg (c:=((b - a:Nat):Int)≤12) (by omega),if_neg (c:=lim=0) hlim,if_pos (c:=(true=true)) rfl,hx,Option.bind_some]
       dsimp only
       simp only[wP (j:=b) (by omega) (by omega),wS (a:=x) (b:=a) (by omega) (by omega),wS (a:=b - 1) (b:=x - a) (by omega) (by omega),↓reduceIte]
       (with_reducible repeat (first|refine Zq (by first|assumption|omega|rfl|exact B_pos (by omega)) ?_|refine Zp (by first|assumption|omega|decide|exact B_not (by omega)) ?_|refine Zk (by first|assumption) ?_|dsimp only))
       simp only[wP (j:=a) (by omega) (by omega),rdA (d:=d2) (i:=a - 1) (by omega),rdA (d:=d2) (i:=(b - 1 - (x - a))) (by omega),Array.length_toList,↓reduceIte]
       (with_reducible repeat (first|refine Zq (by first|assumption|omega|rfl|exact B_pos (by omega)) ?_|refine Zp (by first|assumption|omega|decide|exact B_not (by omega)) ?_|refine Zk (by first|assumption) ?_|dsimp only))
      ·
       rcases r with ⟨l1,d5,e2,rec⟩|⟨l1,d5,e2,rec⟩
       ·
        refine Zco ?_ ((rec (decide (((mid - a:Nat):Int)≥wrapI (((b - a:Nat):Int).tdiv 8))) (decide (ap=true))).tr v2)
        rw[_root_.Go.Proofs.YthmcpmnhdbeahaaGreat.R.Za.l0_eq,wS (a:=b) (b:=a) (by omega) (by omega),map_id', if_neg (c:=((b - a:Nat):Int)≤12) (by omega),if_neg (c:=lim=0) hlim,if_pos (c:=(true=true)) rfl,hx,Option.bind_some]
        dsimp only
        simp only[wP (j:=b) (by omega) (by omega),wS (a:=x) (b:=a) (by omega) (by omega),wS (a:=b - 1) (b:=x - a) (by omega) (by omega),↓reduceIte]
        rcases q with q|⟨q,c,c1,c2⟩
        ·
         (with_reducible repeat (first|refine Zq (by first|assumption|omega|rfl|exact B_pos (by omega)) ?_|refine Zp (by first|assumption|omega|decide|exact B_not (by omega)) ?_|refine Zk (by first|assumption) ?_|dsimp only))
         simp only[wn (j:=mid) (by omega),wS (a:=b) (b:=mid) (by omega) (by omega),wS (a:=mid) (b:=a) (by omega) (by omega),↓reduceIte]
         (with_reducible repeat (first|refine Zq (by first|assumption|omega|rfl|exact B_pos (by omega)) ?_|refine Zp (by first|assumption|omega|decide|exact B_not (by omega)) ?_|refine Zk (by first|assumption) ?_|dsimp only))
        ·
         (with_reducible repeat (first|refine Zq (by first|assumption|omega|rfl|exact B_pos (by omega)) ?_|refine Zp (by first|assumption|omega|decide|exact B_not (by omega)) ?_|refine Zk (by first|assumption) ?_|dsimp only))
         simp only[wP (j:=a) (by omega) (by omega),rdA (d:=d2) (i:=a - 1) (by omega),rdA (d:=d2) (i:=(b - 1 - (x - a))) (by omega),Array.length_toList,↓reduceIte]
         (with_reducible repeat (first|refine Zq (by first|assumption|omega|rfl|exact B_pos (by omega)) ?_|refine Zp (by first|assumption|omega|decide|exact B_not (by omega)) ?_|refine Zk (by first|assumption) ?_|dsimp only))
         simp only[wn (j:=mid) (by omega),wS (a:=b) (b:=mid) (by omega) (by omega),wS (a:=mid) (b:=a) (by omega) (by omega),↓reduceIte]
         (with_reducible repeat (first|refine Zq (by first|assumption|omega|rfl|exact B_pos (by omega)) ?_|refine Zp (by first|assumption|omega|decide|exact B_not (by omega)) ?_|refine Zk (by first|assumption) ?_|dsimp only))
       ·
        refine Zco ?_ ((rec (decide (((b - mid:Nat):Int)≥wrapI (((b - a:Nat):Int).tdiv 8))) (decide (ap=true))).tr v2)
        rw[_root_.Go.Proofs.YthmcpmnhdbeahaaGreat.R.Za.l0_eq,wS (a:=b) (b:=a) (by omega) (by omega),map_id', if_neg (c:=((b - a:Nat):Int)≤12) (by omega),if_neg (c:=lim=0) hlim,if_pos (c:=(true=true)) rfl,hx,Option.bind_some]
        dsimp only
        simp only[wP (j:=b) (by omega) (by omega),wS (a:=x) (b:=a) (by omega) (by omega),wS (a:=b - 1) (b:=x - a) (by omega) (by omega),↓reduceIte]
        rcases q with q|⟨q,c,c1,c2⟩
        ·
         (with_reducible repeat (first|refine Zq (by first|assumption|omega|rfl|exact B_pos (by omega)) ?_|refine Zp (by first|assumption|omega|decide|exact B_not (by omega)) ?_|refine Zk (by first|assumption) ?_|dsimp only))
         simp only[wn (j:=mid) (by omega),wS (a:=b) (b:=mid) (by omega) (by omega),wS (a:=mid) (b:=a) (by omega) (by omega),↓reduceIte]
         (with_reducible repeat (first|refine Zq (by first|assumption|omega|rfl|exact B_pos (by omega)) ?_|refine Zp (by first|assumption|omega|decide|exact B_not (by omega)) ?_|refine Zk (by first|assumption) ?_|dsimp only))
        ·
         (with_reducible repeat (first|refine Zq (by first|assumption|omega|rfl|exact B_pos (by omega)) ?_|refine Zp (by first|assumption|omega|decide|exact B_not (by omega)) ?_|refine Zk (by first|assumption) ?_|dsimp only))
         simp only[wP (j:=a) (by omega) (by omega),rdA (d:=d2) (i:=a - 1) (by omega),rdA (d:=d2) (i:=(b - 1 - (x - a))) (by omega),Array.length_toList,↓reduceIte]
         (with_reducible repeat (first|refine Zq (by first|assumption|omega|rfl|exact B_pos (by omega)) ?_|refine Zp (by first|assumption|omega|decide|exact B_not (by omega)) ?_|refine Zk (by first|assumption) ?_|dsimp only))
         simp only[wn (j:=mid) (by omega),wS (a:=b) (b:=mid) (by omega) (by omega),wS (a:=mid) (b:=a) (by omega) (by omega),↓reduceIte]
         (with_reducible repeat (first|refine Zq (by first|assumption|omega|rfl|exact B_pos (by omega)) ?_|refine Zp (by first|assumption|omega|decide|exact B_not (by omega)) ?_|refine Zk (by first|assumption) ?_|dsimp only))
     | true =>
      have hps:=Go.Sort.partialInsertionSort_holds (lt:=lt) hc.swo d2 a b hab' (by rw[hd2.sz];exact hb) hB2
      have hpe:=psF hc hN hab' hb hd2
      obtain⟨d3,fl,h3⟩:∃d3 fl,partialInsertionSort lt d2 a b=(d3,fl):=⟨_,_,rfl⟩
      rw[h3]at hps hpe
      dsimp only at hps hpe
      have hp3:=Go.Sort.permIn_trans _ _ _ a b v2 hps.1
      have hd3:=hd2.perm hb hps.1
      have hB3:=hB2.perm (by rw[hd2.sz];exact hb) hps.1
      cases fl with
      | true =>
       refine⟨d3,?_,hp3,hps.2 rfl⟩
       rw[_root_.Go.Proofs.YthmcpmnhdbeahaaGreat.R.Za.l0_eq,wS (a:=b) (b:=a) (by omega) (by omega),map_id', if_neg (c:=((b - a:Nat):Int)≤12) (by omega),if_neg (c:=lim=0) hlim,if_pos (c:=(true=true)) rfl,hx,Option.bind_some]
       dsimp only
       (with_reducible repeat (first|refine Zq (by first|assumption|omega|rfl|exact B_pos (by omega)) ?_|refine Zp (by first|assumption|omega|decide|exact B_not (by omega)) ?_|refine Zk (by first|assumption) ?_|dsimp only))
      | false =>
       have hs3:=hd3.sz
       rcases pdqTail hc hN hb IH HF (by omega) hfu (lim:=lim) (piv:=(b - 1 - (x - a))) (by omega) (by omega) hd3 hB3 with ⟨c,mid,d4,a0,c1,c2,e1,rec⟩|⟨mid,ap,d4,q,m1,m2,e1,r⟩
       ·
        refine Zco (Y:=_root_.Go.Proofs.YthmcpmnhdbeahaaGreat.R.Za.l0 (m+1) (mid:Int) (b:Int) lim C true true d4.toList) ?_ ((rec _ _).tr hp3)
        rw[_root_.Go.Proofs.YthmcpmnhdbeahaaGreat.R.Za.l0_eq,wS (a:=b) (b:=a) (by omega) (by omega),map_id', if_neg (c:=((b - a:Nat):Int)≤12) (by omega),if_neg (c:=lim=0) hlim,if_pos (c:=(true=true)) rfl,hx,Option.bind_some]
        dsimp only
        simp only[wP (j:=b) (by omega) (by omega),wS (a:=x) (b:=a) (by omega) (by omega),wS (a:=b - 1) (b:=x - a) (by omega) (by omega),↓reduceIte]
        (with_reducible repeat (first|refine Zq (by first|assumption|omega|rfl|exact B_pos (by omega)) ?_|refine Zp (by first|assumption|omega|decide|exact B_not (by omega)) ?_|refine Zk (by first|assumption) ?_|dsimp only))
        simp only[wP (j:=a) (by omega) (by omega),rdA (d:=d3) (i:=a - 1) (by omega),rdA (d:=d3) (i:=(b - 1 - (x - a))) (by omega),Array.length_toList,↓reduceIte]
        (with_reducible repeat (first|refine Zq (by first|assumption|omega|rfl|exact B_pos (by omega)) ?_|refine Zp (by first|assumption|omega|decide|exact B_not (by omega)) ?_|refine Zk (by first|assumption) ?_|dsimp only))
       ·
        rcases r with ⟨l1,d5,e2,rec⟩|⟨l1,d5,e2,rec⟩
        ·
         refine Zco ?_ ((rec (decide (((mid - a:Nat):Int)≥wrapI (((b - a:Nat):Int).tdiv 8))) (decide (ap=true))).tr hp3)
         rw[_root_.Go.Proofs.YthmcpmnhdbeahaaGreat.R.Za.l0_eq,wS (a:=b) (b:=a) (by omega) (by omega),map_id', if_neg (c:=((b - a:Nat):Int)≤12) (by omega),if_neg (c:=lim=0) hlim,if_pos (c:=(true=true)) rfl,hx,Option.bind_some]
         dsimp only
         simp only[wP (j:=b) (by omega) (by omega),wS (a:=x) (b:=a) (by omega) (by omega),wS (a:=b - 1) (b:=x - a) (by omega) (by omega),↓reduceIte]
         rcases q with q|⟨q,c,c1,c2⟩
         ·
          (with_reducible repeat (first|refine Zq (by first|assumption|omega|rfl|exact B_pos (by omega)) ?_|refine Zp (by first|assumption|omega|decide|exact B_not (by omega)) ?_|refine Zk (by first|assumption) ?_|dsimp only))
          simp only[wn (j:=mid) (by omega),wS (a:=b) (b:=mid) (by omega) (by omega),wS (a:=mid) (b:=a) (by omega) (by omega),↓reduceIte]
          (with_reducible repeat (first|refine Zq (by first|assumption|omega|rfl|exact B_pos (by omega)) ?_|refine Zp (by first|assumption|omega|decide|exact B_not (by omega)) ?_|refine Zk (by first|assumption) ?_|dsimp only))
         ·
          (with_reducible repeat (first|refine Zq (by first|assumption|omega|rfl|exact B_pos (by omega)) ?_|refine Zp (by first|assumption|omega|decide|exact B_not (by omega)) ?_|refine Zk (by first|assumption) ?_|dsimp only))
          simp only[wP (j:=a) (by omega) (by omega),rdA (d:=d3) (i:=a - 1) (by omega),rdA (d:=d3) (i:=(b - 1 - (x - a))) (by omega),Array.length_toList,↓reduceIte]
          (with_reducible repeat (first|refine Zq (by first|assumption|omega|rfl|exact B_pos (by omega)) ?_|refine Zp (by first|assumption|omega|decide|exact B_not (by omega)) ?_|refine Zk (by first|assumption) ?_|dsimp only))
          simp only[wn (j:=mid) (by omega),wS (a:=b) (b:=mid) (by omega) (by omega),wS (a:=mid) (b:=a) (by omega) (by omega),↓reduceIte]
          (with_reducible repeat (first|refine Zq (by first|assumption|omega|rfl|exact B_pos (by omega)) ?_|refine Zp (by first|assumption|omega|decide|exact B_not (by omega)) ?_|refine Zk (by first|assumption) ?_|dsimp only))
        ·
         refine Zco ?_ ((rec (decide (((b - mid:Nat):Int)≥wrapI (((b - a:Nat):Int).tdiv 8))) (decide (ap=true))).tr hp3)
         rw[_root_.Go.Proofs.YthmcpmnhdbeahaaGreat.R.Za.l0_eq,wS (a:=b) (b:=a) (by omega) (by omega),map_id', if_neg (c:=((b - a:Nat):Int)≤12) (by omega),if_neg (c:=lim=0) hlim,if_pos (c:=(true=true)) rfl,hx,Option.bind_some]
         dsimp only
         simp only[wP (j:=b) (by omega) (by omega),wS (a:=x) (b:=a) (by omega) (by omega),wS (a:=b - 1) (b:=x - a) (by omega) (by omega),↓reduceIte]
         rcases q with q|⟨q,c,c1,c2⟩
         ·
          (with_reducible repeat (first|refine Zq (by first|assumption|omega|rfl|exact B_pos (by omega)) ?_|refine Zp (by first|assumption|omega|decide|exact B_not (by omega)) ?_|refine Zk (by first|assumption) ?_|dsimp only))
          simp only[wn (j:=mid) (by omega),wS (a:=b) (b:=mid) (by omega) (by omega),wS (a:=mid) (b:=a) (by omega) (by omega),↓reduceIte]
          (with_reducible repeat (first|refine Zq (by first|assumption|omega|rfl|exact B_pos (by omega)) ?_|refine Zp (by first|assumption|omega|decide|exact B_not (by omega)) ?_|refine Zk (by first|assumption) ?_|dsimp only))
         ·
          (with_reducible repeat (first|refine Zq (by first|assumption|omega|rfl|exact B_pos (by omega)) ?_|refine Zp (by first|assumption|omega|decide|exact B_not (by omega)) ?_|refine Zk (by first|assumption) ?_|dsimp only))
          simp only[wP (j:=a) (by omega) (by omega),rdA (d:=d3) (i:=a - 1) (by omega),rdA (d:=d3) (i:=(b - 1 - (x - a))) (by omega),Array.length_toList,↓reduceIte]
          (with_reducible repeat (first|refine Zq (by first|assumption|omega|rfl|exact B_pos (by omega)) ?_|refine Zp (by first|assumption|omega|decide|exact B_not (by omega)) ?_|refine Zk (by first|assumption) ?_|dsimp only))
          simp only[wn (j:=mid) (by omega),wS (a:=b) (b:=mid) (by omega) (by omega),wS (a:=mid) (b:=a) (by omega) (by omega),↓reduceIte]
          (with_reducible repeat (first|refine Zq (by first|assumption|omega|rfl|exact B_pos (by omega)) ?_|refine Zp (by first|assumption|omega|decide|exact B_not (by omega)) ?_|refine Zk (by first|assumption) ?_|dsimp only))
    ·
     have hp0:=Go.Sort.permIn_refl d a b
     cases wp with
     | false =>
      have hs3:=hd.sz
      rcases pdqTail hc hN hb IH HF (by omega) hfu (lim:=lim) (piv:=x) x1 x2 hd hB with ⟨c,mid,d4,a0,c1,c2,e1,rec⟩|⟨mid,ap,d4,q,m1,m2,e1,r⟩
      ·
       refine Zco (Y:=_root_.Go.Proofs.YthmcpmnhdbeahaaGreat.R.Za.l0 (m+1) (mid:Int) (b:Int) lim C true false d4.toList) ?_ ((rec _ _).tr hp0)
       rw[_root_.Go.Proofs.YthmcpmnhdbeahaaGreat.R.Za.l0_eq,wS (a:=b) (b:=a) (by omega) (by omega),map_id', if_neg (c:=((b - a:Nat):Int)≤12) (by omega),if_neg (c:=lim=0) hlim,if_pos (c:=(true=true)) rfl,hx,Option.bind_some]
       dsimp only
       simp only[wP (j:=b) (by omega) (by omega),wS (a:=x) (b:=a) (by omega) (by omega),wS (a:=b - 1) (b:=x - a) (by omega) (by omega),↓reduceIte]
       (with_reducible repeat (first|refine Zq (by first|assumption|omega|rfl|exact B_pos (by omega)) ?_|refine Zp (by first|assumption|omega|decide|exact B_not (by omega)) ?_|refine Zk (by first|assumption) ?_|dsimp only))
       simp only[wP (j:=a) (by omega) (by omega),rdA (d:=d) (i:=a - 1) (by omega),rdA (d:=d) (i:=x) (by omega),Array.length_toList,↓reduceIte]
       (with_reducible repeat (first|refine Zq (by first|assumption|omega|rfl|exact B_pos (by omega)) ?_|refine Zp (by first|assumption|omega|decide|exact B_not (by omega)) ?_|refine Zk (by first|assumption) ?_|dsimp only))
      ·
       rcases r with ⟨l1,d5,e2,rec⟩|⟨l1,d5,e2,rec⟩
       ·
        refine Zco ?_ ((rec (decide (((mid - a:Nat):Int)≥wrapI (((b - a:Nat):Int).tdiv 8))) (decide (ap=true))).tr hp0)
        rw[_root_.Go.Proofs.YthmcpmnhdbeahaaGreat.R.Za.l0_eq,wS (a:=b) (b:=a) (by omega) (by omega),map_id', if_neg (c:=((b - a:Nat):Int)≤12) (by omega),if_neg (c:=lim=0) hlim,if_pos (c:=(true=true)) rfl,hx,Option.bind_some]
        dsimp only
        simp only[wP (j:=b) (by omega) (by omega),wS (a:=x) (b:=a) (by omega) (by omega),wS (a:=b - 1) (b:=x - a) (by omega) (by omega),↓reduceIte]
        rcases q with q|⟨q,c,c1,c2⟩
        ·
         (with_reducible repeat (first|refine Zq (by first|assumption|omega|rfl|exact B_pos (by omega)) ?_|refine Zp (by first|assumption|omega|decide|exact B_not (by omega)) ?_|refine Zk (by first|assumption) ?_|dsimp only))
         simp only[wn (j:=mid) (by omega),wS (a:=b) (b:=mid) (by omega) (by omega),wS (a:=mid) (b:=a) (by omega) (by omega),↓reduceIte]
         (with_reducible repeat (first|refine Zq (by first|assumption|omega|rfl|exact B_pos (by omega)) ?_|refine Zp (by first|assumption|omega|decide|exact B_not (by omega)) ?_|refine Zk (by first|assumption) ?_|dsimp only))
        ·
         (with_reducible repeat (first|refine Zq (by first|assumption|omega|rfl|exact B_pos (by omega)) ?_|refine Zp (by first|assumption|omega|decide|exact B_not (by omega)) ?_|refine Zk (by first|assumption) ?_|dsimp only))
         simp only[wP (j:=a) (by omega) (by omega),rdA (d:=d) (i:=a - 1) (by omega),rdA (d:=d) (i:=x) (by omega),Array.length_toList,↓reduceIte]
         (with_reducible repeat (first|refine Zq (by first|assumption|omega|rfl|exact B_pos (by omega)) ?_|refine Zp (by first|assumption|omega|decide|exact B_not (by omega)) ?_|refine Zk (by first|assumption) ?_|dsimp only))
         simp only[wn (j:=mid) (by omega),wS (a:=b) (b:=mid) (by omega) (by omega),wS (a:=mid) (b:=a) (by omega) (by omega),↓reduceIte]
         (with_reducible repeat (first|refine Zq (by first|assumption|omega|rfl|exact B_pos (by omega)) ?_|refine Zp (by first|assumption|omega|decide|exact B_not (by omega)) ?_|refine Zk (by first|assumption) ?_|dsimp only))
       ·
        refine Zco ?_ ((rec (decide (((b - mid:Nat):Int)≥wrapI (((b - a:Nat):Int).tdiv 8))) (decide (ap=true))).tr hp0)
        rw[_root_.Go.Proofs.YthmcpmnhdbeahaaGreat.R.Za.l0_eq,wS (a:=b) (b:=a) (by omega) (by omega),map_id', if_neg (c:=((b - a:Nat):Int)≤12) (by omega),if_neg (c:=lim=0) hlim,if_pos (c:=(true=true)) rfl,hx,Option.bind_some]
        dsimp only
        simp only[wP (j:=b) (by omega) (by omega),wS (a:=x) (b:=a) (by omega) (by omega),wS (a:=b - 1) (b:=x - a) (by omega) (by omega),↓reduceIte]
        rcases q with q|⟨q,c,c1,c2⟩
        ·
         (with_reducible repeat (first|refine Zq (by first|assumption|omega|rfl|exact B_pos (by omega)) ?_|refine Zp (by first|assumption|omega|decide|exact B_not (by omega)) ?_|refine Zk (by first|assumption) ?_|dsimp only))
         simp only[wn (j:=mid) (by omega),wS (a:=b) (b:=mid) (by omega) (by omega),wS (a:=mid) (b:=a) (by omega) (by omega),↓reduceIte]
         (with_reducible repeat (first|refine Zq (by first|assumption|omega|rfl|exact B_pos (by omega)) ?_|refine Zp (by first|assumption|omega|decide|exact B_not (by omega)) ?_|refine Zk (by first|assumption) ?_|dsimp only))
        ·
         (with_reducible repeat (first|refine Zq (by first|assumption|omega|rfl|exact B_pos (by omega)) ?_|refine Zp (by first|assumption|omega|decide|exact B_not (by omega)) ?_|refine Zk (by first|assumption) ?_|dsimp only))
         simp only[wP (j:=a) (by omega) (by omega),rdA (d:=d) (i:=a - 1) (by omega),rdA (d:=d) (i:=x) (by omega),Array.length_toList,↓reduceIte]
         (with_reducible repeat (first|refine Zq (by first|assumption|omega|rfl|exact B_pos (by omega)) ?_|refine Zp (by first|assumption|omega|decide|exact B_not (by omega)) ?_|refine Zk (by first|assumption) ?_|dsimp only))
         simp only[wn (j:=mid) (by omega),wS (a:=b) (b:=mid) (by omega) (by omega),wS (a:=mid) (b:=a) (by omega) (by omega),↓reduceIte]
         (with_reducible repeat (first|refine Zq (by first|assumption|omega|rfl|exact B_pos (by omega)) ?_|refine Zp (by first|assumption|omega|decide|exact B_not (by omega)) ?_|refine Zk (by first|assumption) ?_|dsimp only))
     | true =>
      by_cases hh1:h=1
      ·
       have hps:=Go.Sort.partialInsertionSort_holds (lt:=lt) hc.swo d a b hab' (by rw[hd.sz];exact hb) hB
       have hpe:=psF hc hN hab' hb hd
       obtain⟨d3,fl,h3⟩:∃d3 fl,partialInsertionSort lt d a b=(d3,fl):=⟨_,_,rfl⟩
       rw[h3]at hps hpe
       dsimp only at hps hpe
       have hp3:=hps.1
       have hd3:=hd.perm hb hps.1
       have hB3:=hB.perm (by rw[hd.sz];exact hb) hps.1
       cases fl with
       | true =>
        refine⟨d3,?_,hp3,hps.2 rfl⟩
        rw[_root_.Go.Proofs.YthmcpmnhdbeahaaGreat.R.Za.l0_eq,wS (a:=b) (b:=a) (by omega) (by omega),map_id', if_neg (c:=((b - a:Nat):Int)≤12) (by omega),if_neg (c:=lim=0) hlim,if_pos (c:=(true=true)) rfl,hx,Option.bind_some]
        dsimp only
        (with_reducible repeat (first|refine Zq (by first|assumption|omega|rfl|exact B_pos (by omega)) ?_|refine Zp (by first|assumption|omega|decide|exact B_not (by omega)) ?_|refine Zk (by first|assumption) ?_|dsimp only))
       | false =>
        have hs3:=hd3.sz
        rcases pdqTail hc hN hb IH HF (by omega) hfu (lim:=lim) (piv:=x) x1 x2 hd3 hB3 with ⟨c,mid,d4,a0,c1,c2,e1,rec⟩|⟨mid,ap,d4,q,m1,m2,e1,r⟩
        ·
         refine Zco (Y:=_root_.Go.Proofs.YthmcpmnhdbeahaaGreat.R.Za.l0 (m+1) (mid:Int) (b:Int) lim C true true d4.toList) ?_ ((rec _ _).tr hp3)
         rw[_root_.Go.Proofs.YthmcpmnhdbeahaaGreat.R.Za.l0_eq,wS (a:=b) (b:=a) (by omega) (by omega),map_id', if_neg (c:=((b - a:Nat):Int)≤12) (by omega),if_neg (c:=lim=0) hlim,if_pos (c:=(true=true)) rfl,hx,Option.bind_some]
         dsimp only
         simp only[wP (j:=b) (by omega) (by omega),wS (a:=x) (b:=a) (by omega) (by omega),wS (a:=b - 1) (b:=x - a) (by omega) (by omega),↓reduceIte]
         (with_reducible repeat (first|refine Zq (by first|assumption|omega|rfl|exact B_pos (by omega)) ?_|refine Zp (by first|assumption|omega|decide|exact B_not (by omega)) ?_|refine Zk (by first|assumption) ?_|dsimp only))
         simp only[wP (j:=a) (by omega) (by omega),rdA (d:=d3) (i:=a - 1) (by omega),rdA (d:=d3) (i:=x) (by omega),Array.length_toList,↓reduceIte]
         (with_reducible repeat (first|refine Zq (by first|assumption|omega|rfl|exact B_pos (by omega)) ?_|refine Zp (by first|assumption|omega|decide|exact B_not (by omega)) ?_|refine Zk (by first|assumption) ?_|dsimp only))
        ·
         rcases r with ⟨l1,d5,e2,rec⟩|⟨l1,d5,e2,rec⟩
         ·
          refine Zco ?_ ((rec (decide (((mid - a:Nat):Int)≥wrapI (((b - a:Nat):Int).tdiv 8))) (decide (ap=true))).tr hp3)
          rw[_root_.Go.Proofs.YthmcpmnhdbeahaaGreat.R.Za.l0_eq,wS (a:=b) (b:=a) (by omega) (by omega),map_id', if_neg (c:=((b - a:Nat):Int)≤12) (by omega),if_neg (c:=lim=0) hlim,if_pos (c:=(true=true)) rfl,hx,Option.bind_some]
          dsimp only
          simp only[wP (j:=b) (by omega) (by omega),wS (a:=x) (b:=a) (by omega) (by omega),wS (a:=b - 1) (b:=x - a) (by omega) (by omega),↓reduceIte]
          rcases q with q|⟨q,c,c1,c2⟩
          ·
           (with_reducible repeat (first|refine Zq (by first|assumption|omega|rfl|exact B_pos (by omega)) ?_|refine Zp (by first|assumption|omega|decide|exact B_not (by omega)) ?_|refine Zk (by first|assumption) ?_|dsimp only))
           simp only[wn (j:=mid) (by omega),wS (a:=b) (b:=mid) (by omega) (by omega),wS (a:=mid) (b:=a) (by omega) (by omega),↓reduceIte]
           (with_reducible repeat (first|refine Zq (by first|assumption|omega|rfl|exact B_pos (by omega)) ?_|refine Zp (by first|assumption|omega|decide|exact B_not (by omega)) ?_|refine Zk (by first|assumption) ?_|dsimp only))
          ·
           (with_reducible repeat (first|refine Zq (by first|assumption|omega|rfl|exact B_pos (by omega)) ?_|refine Zp (by first|assumption|omega|decide|exact B_not (by omega)) ?_|refine Zk (by first|assumption) ?_|dsimp only))
           simp only[wP (j:=a) (by omega) (by omega),rdA (d:=d3) (i:=a - 1) (by omega),rdA (d:=d3) (i:=x) (by omega),Array.length_toList,↓reduceIte]
           (with_reducible repeat (first|refine Zq (by first|assumption|omega|rfl|exact B_pos (by omega)) ?_|refine Zp (by first|assumption|omega|decide|exact B_not (by omega)) ?_|refine Zk (by first|assumption) ?_|dsimp only))
           simp only[wn (j:=mid) (by omega),wS (a:=b) (b:=mid) (by omega) (by omega),wS (a:=mid) (b:=a) (by omega) (by omega),↓reduceIte]
           (with_reducible repeat (first|refine Zq (by first|assumption|omega|rfl|exact B_pos (by omega)) ?_|refine Zp (by first|assumption|omega|decide|exact B_not (by omega)) ?_|refine Zk (by first|assumption) ?_|dsimp only))
         ·
          refine Zco ?_ ((rec (decide (((b - mid:Nat):Int)≥wrapI (((b - a:Nat):Int).tdiv 8))) (decide (ap=true))).tr hp3)
          rw[_root_.Go.Proofs.YthmcpmnhdbeahaaGreat.R.Za.l0_eq,wS (a:=b) (b:=a) (by omega) (by omega),map_id', if_neg (c:=((b - a:Nat):Int)≤12) (by omega),if_neg (c:=lim=0) hlim,if_pos (c:=(true=true)) rfl,hx,Option.bind_some]
          dsimp only
          simp only[wP (j:=b) (by omega) (by omega),wS (a:=x) (b:=a) (by omega) (by omega),wS (a:=b - 1) (b:=x - a) (by omega) (by omega),↓reduceIte]
          rcases q with q|⟨q,c,c1,c2⟩
          ·
           (with_reducible repeat (first|refine Zq (by first|assumption|omega|rfl|exact B_pos (by omega)) ?_|refine Zp (by first|assumption|omega|decide|exact B_not (by omega)) ?_|refine Zk (by first|assumption) ?_|dsimp only))
           simp only[wn (j:=mid) (by omega),wS (a:=b) (b:=mid) (by omega) (by omega),wS (a:=mid) (b:=a) (by omega) (by omega),↓reduceIte]
           (with_reducible repeat (first|refine Zq (by first|assumption|omega|rfl|exact B_pos (by omega)) ?_|refine Zp (by first|assumption|omega|decide|exact B_not (by omega)) ?_|refine Zk (by first|assumption) ?_|dsimp only))
          ·
           (with_reducible repeat (first|refine Zq (by first|assumption|omega|rfl|exact B_pos (by omega)) ?_|refine Zp (by first|assumption|omega|decide|exact B_not (by omega)) ?_|refine Zk (by first|assumption) ?_|dsimp only))
           simp only[wP (j:=a) (by omega) (by omega),rdA (d:=d3) (i:=a - 1) (by omega),rdA (d:=d3) (i:=x) (by omega),Array.length_toList,↓reduceIte]
           (with_reducible repeat (first|refine Zq (by first|assumption|omega|rfl|exact B_pos (by omega)) ?_|refine Zp (by first|assumption|omega|decide|exact B_not (by omega)) ?_|refine Zk (by first|assumption) ?_|dsimp only))
           simp only[wn (j:=mid) (by omega),wS (a:=b) (b:=mid) (by omega) (by omega),wS (a:=mid) (b:=a) (by omega) (by omega),↓reduceIte]
           (with_reducible repeat (first|refine Zq (by first|assumption|omega|rfl|exact B_pos (by omega)) ?_|refine Zp (by first|assumption|omega|decide|exact B_not (by omega)) ?_|refine Zk (by first|assumption) ?_|dsimp only))
      ·
       have hs3:=hd.sz
       rcases pdqTail hc hN hb IH HF (by omega) hfu (lim:=lim) (piv:=x) x1 x2 hd hB with ⟨c,mid,d4,a0,c1,c2,e1,rec⟩|⟨mid,ap,d4,q,m1,m2,e1,r⟩
       ·
        refine Zco (Y:=_root_.Go.Proofs.YthmcpmnhdbeahaaGreat.R.Za.l0 (m+1) (mid:Int) (b:Int) lim C true true d4.toList) ?_ ((rec _ _).tr hp0)
        rw[_root_.Go.Proofs.YthmcpmnhdbeahaaGreat.R.Za.l0_eq,wS (a:=b) (b:=a) (by omega) (by omega),map_id', if_neg (c:=((b - a:Nat):Int)≤12) (by omega),if_neg (c:=lim=0) hlim,if_pos (c:=(true=true)) rfl,hx,Option.bind_some]
        dsimp only
        simp only[wP (j:=b) (by omega) (by omega),wS (a:=x) (b:=a) (by omega) (by omega),wS (a:=b - 1) (b:=x - a) (by omega) (by omega),↓reduceIte]
        (with_reducible repeat (first|refine Zq (by first|assumption|omega|rfl|exact B_pos (by omega)) ?_|refine Zp (by first|assumption|omega|decide|exact B_not (by omega)) ?_|refine Zk (by first|assumption) ?_|dsimp only))
        simp only[wP (j:=a) (by omega) (by omega),rdA (d:=d) (i:=a - 1) (by omega),rdA (d:=d) (i:=x) (by omega),Array.length_toList,↓reduceIte]
        (with_reducible repeat (first|refine Zq (by first|assumption|omega|rfl|exact B_pos (by omega)) ?_|refine Zp (by first|assumption|omega|decide|exact B_not (by omega)) ?_|refine Zk (by first|assumption) ?_|dsimp only))
       ·
        rcases r with ⟨l1,d5,e2,rec⟩|⟨l1,d5,e2,rec⟩
        ·
         refine Zco ?_ ((rec (decide (((mid - a:Nat):Int)≥wrapI (((b - a:Nat):Int).tdiv 8))) (decide (ap=true))).tr hp0)
         rw[_root_.Go.Proofs.YthmcpmnhdbeahaaGreat.R.Za.l0_eq,wS (a:=b) (b:=a) (by omega) (by omega),map_id', if_neg (c:=((b - a:Nat):Int)≤12) (by omega),if_neg (c:=lim=0) hlim,if_pos (c:=(true=true)) rfl,hx,Option.bind_some]
         dsimp only
         simp only[wP (j:=b) (by omega) (by omega),wS (a:=x) (b:=a) (by omega) (by omega),wS (a:=b - 1) (b:=x - a) (by omega) (by omega),↓reduceIte]
         rcases q with q|⟨q,c,c1,c2⟩
         ·
          (with_reducible repeat (first|refine Zq (by first|assumption|omega|rfl|exact B_pos (by omega)) ?_|refine Zp (by first|assumption|omega|decide|exact B_not (by omega)) ?_|refine Zk (by first|assumption) ?_|dsimp only))
          simp only[wn (j:=mid) (by omega),wS (a:=b) (b:=mid) (by omega) (by omega),wS (a:=mid) (b:=a) (by omega) (by omega),↓reduceIte]
          (with_reducible repeat (first|refine Zq (by first|assumption|omega|rfl|exact B_pos (by omega)) ?_|refine Zp (by first|assumption|omega|decide|exact B_not (by omega)) ?_|refine Zk (by first|assumption) ?_|dsimp only))
         ·
          (with_reducible repeat (first|refine Zq (by first|assumption|omega|rfl|exact B_pos (by omega)) ?_|refine Zp (by first|assumption|omega|decide|exact B_not (by omega)) ?_|refine Zk (by first|assumption) ?_|dsimp only))
          simp only[wP (j:=a) (by omega) (by omega),rdA (d:=d) (i:=a - 1) (by omega),rdA (d:=d) (i:=x) (by omega),Array.length_toList,↓reduceIte]
          (with_reducible repeat (first|refine Zq (by first|assumption|omega|rfl|exact B_pos (by omega)) ?_|refine Zp (by first|assumption|omega|decide|exact B_not (by omega)) ?_|refine Zk (by first|assumption) ?_|dsimp only))
          simp only[wn (j:=mid) (by omega),wS (a:=b) (b:=mid) (by omega) (by omega),wS (a:=mid) (b:=a) (by omega) (by omega),↓reduceIte]
          (with_reducible repeat (first|refine Zq (by first|assumption|omega|rfl|exact B_pos (by omega)) ?_|refine Zp (by first|assumption|omega|decide|exact B_not (by omega)) ?_|refine Zk (by first|assumption) ?_|dsimp only))
        ·
         refine Zco ?_ ((rec (decide (((b - mid:Nat):Int)≥wrapI (((b - a:Nat):Int).tdiv 8))) (decide (ap=true))).tr hp0)
         rw[_root_.Go.Proofs.YthmcpmnhdbeahaaGreat.R.Za.l0_eq,wS (a:=b) (b:=a) (by omega) (by omega),map_id', if_neg (c:=((b - a:Nat):Int)≤12) (by omega),if_neg (c:=lim=0) hlim,if_pos (c:=(true=true)) rfl,hx,Option.bind_some]
         dsimp only
         simp only[wP (j:=b) (by omega) (by omega),wS (a:=x) (b:=a) (by omega) (by omega),wS (a:=b - 1) (b:=x - a) (by omega) (by omega),↓reduceIte]
         rcases q with q|⟨q,c,c1,c2⟩
         ·
          (with_reducible repeat (first|refine Zq (by first|assumption|omega|rfl|exact B_pos (by omega)) ?_|refine Zp (by first|assumption|omega|decide|exact B_not (by omega)) ?_|refine Zk (by first|assumption) ?_|dsimp only))
          simp only[wn (j:=mid) (by omega),wS (a:=b) (b:=mid) (by omega) (by omega),wS (a:=mid) (b:=a) (by omega) (by omega),↓reduceIte]
          (with_reducible repeat (first|refine Zq (by first|assumption|omega|rfl|exact B_pos (by omega)) ?_|refine Zp (by first|assumption|omega|decide|exact B_not (by omega)) ?_|refine Zk (by first|assumption) ?_|dsimp only))
         ·
          (with_reducible repeat (first|refine Zq (by first|assumption|omega|rfl|exact B_pos (by omega)) ?_|refine Zp (by first|assumption|omega|decide|exact B_not (by omega)) ?_|refine Zk (by first|assumption) ?_|dsimp only))
          simp only[wP (j:=a) (by omega) (by omega),rdA (d:=d) (i:=a - 1) (by omega),rdA (d:=d) (i:=x) (by omega),Array.length_toList,↓reduceIte]
          (with_reducible repeat (first|refine Zq (by first|assumption|omega|rfl|exact B_pos (by omega)) ?_|refine Zp (by first|assumption|omega|decide|exact B_not (by omega)) ?_|refine Zk (by first|assumption) ?_|dsimp only))
          simp only[wn (j:=mid) (by omega),wS (a:=b) (b:=mid) (by omega) (by omega),wS (a:=mid) (b:=a) (by omega) (by omega),↓reduceIte]
          (with_reducible repeat (first|refine Zq (by first|assumption|omega|rfl|exact B_pos (by omega)) ?_|refine Zp (by first|assumption|omega|decide|exact B_not (by omega)) ?_|refine Zk (by first|assumption) ?_|dsimp only))
   | false =>
    obtain⟨d1,hbk,b2⟩:=brkF (C:=C) hN hab' hb hd
    have hd1:=hd.perm hb b2
    have hB1:=hB.perm (by rw[hd.sz];exact hb) b2
    obtain⟨x,h,hx,x1,x2⟩:=pivF hc hN hab' hb hd1
    by_cases hh:h=2
    ·
     obtain⟨d2,v1,v2⟩:=revS (C:=C) hN hab' hb hd1
     have hd2:=hd1.perm hb v2
     have hB2:=hB1.perm (by rw[hd1.sz];exact hb) v2
     have hp2:=Go.Sort.permIn_trans _ _ _ a b b2 v2
     have hs3:=hd2.sz
     rcases pdqTail hc hN hb IH HF (by omega) hfu (lim:=(wrapI (lim - 1))) (piv:=(b - 1 - (x - a))) (by omega) (by omega) hd2 hB2 with ⟨c,mid,d4,a0,c1,c2,e1,rec⟩|⟨mid,ap,d4,q,m1,m2,e1,r⟩
     ·
      refine Zco (Y:=_root_.Go.Proofs.YthmcpmnhdbeahaaGreat.R.Za.l0 (m+1) (mid:Int) (b:Int) (wrapI (lim - 1)) C false wp d4.toList) ?_ ((rec _ _).tr hp2)
      rw[_root_.Go.Proofs.YthmcpmnhdbeahaaGreat.R.Za.l0_eq,wS (a:=b) (b:=a) (by omega) (by omega),map_id', if_neg (c:=((b - a:Nat):Int)≤12) (by omega),if_neg (c:=lim=0) hlim,if_neg (c:=(false=true)) (by decide),hbk,Option.bind_some,hx,Option.bind_some]
      dsimp only
      simp only[wP (j:=b) (by omega) (by omega),wS (a:=x) (b:=a) (by omega) (by omega),wS (a:=b - 1) (b:=x - a) (by omega) (by omega),↓reduceIte]
      (with_reducible repeat (first|refine Zq (by first|assumption|omega|rfl|exact B_pos (by omega)) ?_|refine Zp (by first|assumption|omega|decide|exact B_not (by omega)) ?_|refine Zk (by first|assumption) ?_|dsimp only))
      simp only[wP (j:=a) (by omega) (by omega),rdA (d:=d2) (i:=a - 1) (by omega),rdA (d:=d2) (i:=(b - 1 - (x - a))) (by omega),Array.length_toList,↓reduceIte]
      (with_reducible repeat (first|refine Zq (by first|assumption|omega|rfl|exact B_pos (by omega)) ?_|refine Zp (by first|assumption|omega|decide|exact B_not (by omega)) ?_|refine Zk (by first|assumption) ?_|dsimp only))
     ·
      rcases r with ⟨l1,d5,e2,rec⟩|⟨l1,d5,e2,rec⟩
      ·
       refine Zco ?_ ((rec (decide (((mid - a:Nat):Int)≥wrapI (((b - a:Nat):Int).tdiv 8))) (decide (ap=true))).tr hp2)
       rw[_root_.Go.Proofs.YthmcpmnhdbeahaaGreat.R.Za.l0_eq,wS (a:=b) (b:=a) (by omega) (by omega),map_id', if_neg (c:=((b - a:Nat):Int)≤12) (by omega),if_neg (c:=lim=0) hlim,if_neg (c:=(false=true)) (by decide),hbk,Option.bind_some,hx,Option.bind_some]
       dsimp only
       simp only[wP (j:=b) (by omega) (by omega),wS (a:=x) (b:=a) (by omega) (by omega),wS (a:=b - 1) (b:=x - a) (by omega) (by omega),↓reduceIte]
       rcases q with q|⟨q,c,c1,c2⟩
       ·
        (with_reducible repeat (first|refine Zq (by first|assumption|omega|rfl|exact B_pos (by omega)) ?_|refine Zp (by first|assumption|omega|decide|exact B_not (by omega)) ?_|refine Zk (by first|assumption) ?_|dsimp only))
        simp only[wn (j:=mid) (by omega),wS (a:=b) (b:=mid) (by omega) (by omega),wS (a:=mid) (b:=a) (by omega) (by omega),↓reduceIte]
        (with_reducible repeat (first|refine Zq (by first|assumption|omega|rfl|exact B_pos (by omega)) ?_|refine Zp (by first|assumption|omega|decide|exact B_not (by omega)) ?_|refine Zk (by first|assumption) ?_|dsimp only))
       ·
        (with_reducible repeat (first|refine Zq (by first|assumption|omega|rfl|exact B_pos (by omega)) ?_|refine Zp (by first|assumption|omega|decide|exact B_not (by omega)) ?_|refine Zk (by first|assumption) ?_|dsimp only))
        simp only[wP (j:=a) (by omega) (by omega),rdA (d:=d2) (i:=a - 1) (by omega),rdA (d:=d2) (i:=(b - 1 - (x - a))) (by omega),Array.length_toList,↓reduceIte]
        (with_reducible repeat (first|refine Zq (by first|assumption|omega|rfl|exact B_pos (by omega)) ?_|refine Zp (by first|assumption|omega|decide|exact B_not (by omega)) ?_|refine Zk (by first|assumption) ?_|dsimp only))
        simp only[wn (j:=mid) (by omega),wS (a:=b) (b:=mid) (by omega) (by omega),wS (a:=mid) (b:=a) (by omega) (by omega),↓reduceIte]
        (with_reducible repeat (first|refine Zq (by first|assumption|omega|rfl|exact B_pos (by omega)) ?_|refine Zp (by first|assumption|omega|decide|exact B_not (by omega)) ?_|refine Zk (by first|assumption) ?_|dsimp only))
      ·
       refine Zco ?_ ((rec (decide (((b - mid:Nat):Int)≥wrapI (((b - a:Nat):Int).tdiv 8))) (decide (ap=true))).tr hp2)
       rw[_root_.Go.Proofs.YthmcpmnhdbeahaaGreat.R.Za.l0_eq,wS (a:=b) (b:=a) (by omega) (by omega),map_id', if_neg (c:=((b - a:Nat):Int)≤12) (by omega),if_neg (c:=lim=0) hlim,if_neg (c:=(false=true)) (by decide),hbk,Option.bind_some,hx,Option.bind_some]
       dsimp only
       simp only[wP (j:=b) (by omega) (by omega),wS (a:=x) (b:=a) (by omega) (by omega),wS (a:=b - 1) (b:=x - a) (by omega) (by omega),↓reduceIte]
       rcases q with q|⟨q,c,c1,c2⟩
       ·
        (with_reducible repeat (first|refine Zq (by first|assumption|omega|rfl|exact B_pos (by omega)) ?_|refine Zp (by first|assumption|omega|decide|exact B_not (by omega)) ?_|refine Zk (by first|assumption) ?_|dsimp only))
        simp only[wn (j:=mid) (by omega),wS (a:=b) (b:=mid) (by omega) (by omega),wS (a:=mid) (b:=a) (by omega) (by omega),↓reduceIte]
        (with_reducible repeat (first|refine Zq (by first|assumption|omega|rfl|exact B_pos (by omega)) ?_|refine Zp (by first|assumption|omega|decide|exact B_not (by omega)) ?_|refine Zk (by first|assumption) ?_|dsimp only))
       ·
        (with_reducible repeat (first|refine Zq (by first|assumption|omega|rfl|exact B_pos (by omega)) ?_|refine Zp (by first|assumption|omega|decide|exact B_not (by omega)) ?_|refine Zk (by first|assumption) ?_|dsimp only))
        simp only[wP (j:=a) (by omega) (by omega),rdA (d:=d2) (i:=a - 1) (by omega),rdA (d:=d2) (i:=(b - 1 - (x - a))) (by omega),Array.length_toList,↓reduceIte]
        (with_reducible repeat (first|refine Zq (by first|assumption|omega|rfl|exact B_pos (by omega)) ?_|refine Zp (by first|assumption|omega|decide|exact B_not (by omega)) ?_|refine Zk (by first|assumption) ?_|dsimp only))
        simp only[wn (j:=mid) (by omega),wS (a:=b) (b:=mid) (by omega) (by omega),wS (a:=mid) (b:=a) (by omega) (by omega),↓reduceIte]
        (with_reducible repeat (first|refine Zq (by first|assumption|omega|rfl|exact B_pos (by omega)) ?_|refine Zp (by first|assumption|omega|decide|exact B_not (by omega)) ?_|refine Zk (by first|assumption) ?_|dsimp only))
    ·
     have hs3:=hd1.sz
     rcases pdqTail hc hN hb IH HF (by omega) hfu (lim:=(wrapI (lim - 1))) (piv:=x) x1 x2 hd1 hB1 with ⟨c,mid,d4,a0,c1,c2,e1,rec⟩|⟨mid,ap,d4,q,m1,m2,e1,r⟩
     ·
      refine Zco (Y:=_root_.Go.Proofs.YthmcpmnhdbeahaaGreat.R.Za.l0 (m+1) (mid:Int) (b:Int) (wrapI (lim - 1)) C false wp d4.toList) ?_ ((rec _ _).tr b2)
      rw[_root_.Go.Proofs.YthmcpmnhdbeahaaGreat.R.Za.l0_eq,wS (a:=b) (b:=a) (by omega) (by omega),map_id', if_neg (c:=((b - a:Nat):Int)≤12) (by omega),if_neg (c:=lim=0) hlim,if_neg (c:=(false=true)) (by decide),hbk,Option.bind_some,hx,Option.bind_some]
      dsimp only
      simp only[wP (j:=b) (by omega) (by omega),wS (a:=x) (b:=a) (by omega) (by omega),wS (a:=b - 1) (b:=x - a) (by omega) (by omega),↓reduceIte]
      (with_reducible repeat (first|refine Zq (by first|assumption|omega|rfl|exact B_pos (by omega)) ?_|refine Zp (by first|assumption|omega|decide|exact B_not (by omega)) ?_|refine Zk (by first|assumption) ?_|dsimp only))
      simp only[wP (j:=a) (by omega) (by omega),rdA (d:=d1) (i:=a - 1) (by omega),rdA (d:=d1) (i:=x) (by omega),Array.length_toList,↓reduceIte]
      (with_reducible repeat (first|refine Zq (by first|assumption|omega|rfl|exact B_pos (by omega)) ?_|refine Zp (by first|assumption|omega|decide|exact B_not (by omega)) ?_|refine Zk (by first|assumption) ?_|dsimp only))
     ·
      rcases r with ⟨l1,d5,e2,rec⟩|⟨l1,d5,e2,rec⟩
      ·
       refine Zco ?_ ((rec (decide (((mid - a:Nat):Int)≥wrapI (((b - a:Nat):Int).tdiv 8))) (decide (ap=true))).tr b2)
       rw[_root_.Go.Proofs.YthmcpmnhdbeahaaGreat.R.Za.l0_eq,wS (a:=b) (b:=a) (by omega) (by omega),map_id', if_neg (c:=((b - a:Nat):Int)≤12) (by omega),if_neg (c:=lim=0) hlim,if_neg (c:=(false=true)) (by decide),hbk,Option.bind_some,hx,Option.bind_some]
       dsimp only
       simp only[wP (j:=b) (by omega) (by omega),wS (a:=x) (b:=a) (by omega) (by omega),wS (a:=b - 1) (b:=x - a) (by omega) (by omega),↓reduceIte]
       rcases q with q|⟨q,c,c1,c2⟩
       ·
        (with_reducible repeat (first|refine Zq (by first|assumption|omega|rfl|exact B_pos (by omega)) ?_|refine Zp (by first|assumption|omega|decide|exact B_not (by omega)) ?_|refine Zk (by first|assumption) ?_|dsimp only))
        simp only[wn (j:=mid) (by omega),wS (a:=b) (b:=mid) (by omega) (by omega),wS (a:=mid) (b:=a) (by omega) (by omega),↓reduceIte]
        (with_reducible repeat (first|refine Zq (by first|assumption|omega|rfl|exact B_pos (by omega)) ?_|refine Zp (by first|assumption|omega|decide|exact B_not (by omega)) ?_|refine Zk (by first|assumption) ?_|dsimp only))
       ·
        (with_reducible repeat (first|refine Zq (by first|assumption|omega|rfl|exact B_pos (by omega)) ?_|refine Zp (by first|assumption|omega|decide|exact B_not (by omega)) ?_|refine Zk (by first|assumption) ?_|dsimp only))
        simp only[wP (j:=a) (by omega) (by omega),rdA (d:=d1) (i:=a - 1) (by omega),rdA (d:=d1) (i:=x) (by omega),Array.length_toList,↓reduceIte]
        (with_reducible repeat (first|refine Zq (by first|assumption|omega|rfl|exact B_pos (by omega)) ?_|refine Zp (by first|assumption|omega|decide|exact B_not (by omega)) ?_|refine Zk (by first|assumption) ?_|dsimp only))
        simp only[wn (j:=mid) (by omega),wS (a:=b) (b:=mid) (by omega) (by omega),wS (a:=mid) (b:=a) (by omega) (by omega),↓reduceIte]
        (with_reducible repeat (first|refine Zq (by first|assumption|omega|rfl|exact B_pos (by omega)) ?_|refine Zp (by first|assumption|omega|decide|exact B_not (by omega)) ?_|refine Zk (by first|assumption) ?_|dsimp only))
      ·
       refine Zco ?_ ((rec (decide (((b - mid:Nat):Int)≥wrapI (((b - a:Nat):Int).tdiv 8))) (decide (ap=true))).tr b2)
       rw[_root_.Go.Proofs.YthmcpmnhdbeahaaGreat.R.Za.l0_eq,wS (a:=b) (b:=a) (by omega) (by omega),map_id', if_neg (c:=((b - a:Nat):Int)≤12) (by omega),if_neg (c:=lim=0) hlim,if_neg (c:=(false=true)) (by decide),hbk,Option.bind_some,hx,Option.bind_some]
       dsimp only
       simp only[wP (j:=b) (by omega) (by omega),wS (a:=x) (b:=a) (by omega) (by omega),wS (a:=b - 1) (b:=x - a) (by omega) (by omega),↓reduceIte]
       rcases q with q|⟨q,c,c1,c2⟩
       ·
        (with_reducible repeat (first|refine Zq (by first|assumption|omega|rfl|exact B_pos (by omega)) ?_|refine Zp (by first|assumption|omega|decide|exact B_not (by omega)) ?_|refine Zk (by first|assumption) ?_|dsimp only))
        simp only[wn (j:=mid) (by omega),wS (a:=b) (b:=mid) (by omega) (by omega),wS (a:=mid) (b:=a) (by omega) (by omega),↓reduceIte]
        (with_reducible repeat (first|refine Zq (by first|assumption|omega|rfl|exact B_pos (by omega)) ?_|refine Zp (by first|assumption|omega|decide|exact B_not (by omega)) ?_|refine Zk (by first|assumption) ?_|dsimp only))
       ·
        (with_reducible repeat (first|refine Zq (by first|assumption|omega|rfl|exact B_pos (by omega)) ?_|refine Zp (by first|assumption|omega|decide|exact B_not (by omega)) ?_|refine Zk (by first|assumption) ?_|dsimp only))
        simp only[wP (j:=a) (by omega) (by omega),rdA (d:=d1) (i:=a - 1) (by omega),rdA (d:=d1) (i:=x) (by omega),Array.length_toList,↓reduceIte]
        (with_reducible repeat (first|refine Zq (by first|assumption|omega|rfl|exact B_pos (by omega)) ?_|refine Zp (by first|assumption|omega|decide|exact B_not (by omega)) ?_|refine Zk (by first|assumption) ?_|dsimp only))
        simp only[wn (j:=mid) (by omega),wS (a:=b) (b:=mid) (by omega) (by omega),wS (a:=mid) (b:=a) (by omega) (by omega),↓reduceIte]
        (with_reducible repeat (first|refine Zq (by first|assumption|omega|rfl|exact B_pos (by omega)) ?_|refine Zp (by first|assumption|omega|decide|exact B_not (by omega)) ?_|refine Zk (by first|assumption) ?_|dsimp only))
theorem ZmV {H:Value→Prop} {L:Value→Value→Prop} {C:Value→Value→Option Int} (hC:Ord H L C) {xs:List Value} (hN:xs.length≤1000000000) (hr:∀r∈xs,H r) :
  ∃S,_root_.Go.Proofs.YthmcpmnhdbeahaaGreat.R.ZC.f xs C=some S∧S.Pairwise (fun r s=>¬ L s r)∧S.Perm xs:=by
 classical
 obtain⟨lt,hlt⟩:∃lt:Value→Value→Bool,∀x y,lt x y=true↔(H x∧H y∧L x y)∨(H x∧¬ H y):=⟨fun x y=>decide ((H x∧H y∧L x y)∨(H x∧¬ H y)),fun x y=>decide_eq_true_iff⟩
 have hnl:∀x y,lt x y=false↔¬ ((H x∧H y∧L x y)∨(H x∧¬ H y)):=fun x y=>by rw[←hlt,Bool.not_eq_true]
 have hc:Cm H lt C:=by
  refine⟨⟨fun x => ?_,fun x y z h1 h2 => ?_,fun x y z h1 h2 => ?_⟩,fun x y hx hy => ?_⟩
  ·
   rw[hnl]
   rintro(⟨h1,_,h3⟩|⟨h1,h2⟩)
   ·
    exact hC.asy x x h3 h3
   ·
    exact h2 h1
  ·
   rw[hlt]at h1 h2 ⊢
   rcases h2 with ⟨hy,hz,h2⟩|⟨hy,hz⟩
   ·
    rcases h1 with ⟨hx,_,h1⟩|⟨hx,h1⟩
    ·
     refine .inl ⟨hx,hz,?_⟩
     exact Classical.byContradiction fun k=>hC.tr y z x hy hz hx (fun q=>hC.asy _ _ h2 q) k h1
    ·
     exact absurd hy h1
   ·
    rcases h1 with ⟨hx,_,_⟩|⟨hx,h1⟩
    ·
     exact .inr ⟨hx,hz⟩
    ·
     exact absurd hy h1
  ·
   rw[hnl]at h1 h2 ⊢
   rintro(⟨hx,hz,h3⟩|⟨hx,hz⟩)
   ·
    by_cases hy:H y
    ·
     exact hC.tr z y x hz hy hx (fun k=>h2 (.inl ⟨hy,hz,k⟩)) (fun k=>h1 (.inl ⟨hx,hy,k⟩)) h3
    ·
     exact h1 (.inr ⟨hx,hy⟩)
   ·
    by_cases hy:H y
    ·
     exact h2 (.inr ⟨hy,hz⟩)
    ·
     exact h1 (.inr ⟨hx,hy⟩)
  ·
   obtain⟨c,c1,c2⟩:=hC.cmp x y hx hy
   refine⟨c,c1,c2.trans ?_⟩
   rw[hlt]
   exact⟨fun k => .inl ⟨hx,hy,k⟩,fun k=>k.elim (fun k=>k.2.2) (fun k=>absurd hy k.2)⟩
 have hd:Al H xs.length xs.toArray:=⟨by simp,fun i hi=>by
  rw[getElem!_pos xs.toArray i (by simpa using hi)]
  exact hr _ (by simp)⟩
 have hb:∃t,_root_.Go.Proofs.YthmcpmnhdbeahaaGreat.R.bits_Len.f (wr .u64 (xs.length:Int))=some t:=by
  rw[wr_id (by omega) (by omega)]
  unfold _root_.Go.Proofs.YthmcpmnhdbeahaaGreat.R.bits_Len.f
  rw[if_pos (by omega)]
  exact⟨_,rfl⟩
 obtain⟨t,ht⟩:=hb
 obtain⟨d', h1,h2,h3⟩:=pdqL hc hN 63 xs.length 0 xs.length t true true xs.toArray (by omega) (Nat.lt_of_le_of_lt (Nat.le_trans (Nat.sub_le _ _) hN) (by decide)) (by omega) (Nat.le_refl _) hd (.inl rfl)
 have hsz:d'.size=xs.length:=by rw[h2.1];simp
 refine⟨d'.toList,?_,?_,?_⟩
 ·
  rw[_root_.Go.Proofs.YthmcpmnhdbeahaaGreat.R.ZC.f_eq,ht,Option.bind_some,map_id', ZfR,_root_.Go.Proofs.YthmcpmnhdbeahaaGreat.R.Za.f_eq]
  rw[show(0:Int)=((0:Nat):Int)from rfl]
  have:xs.toArray.toList=xs:=by simp
  rw[this]at h1
  rw[h1]
  rfl
 ·
  rw[List.pairwise_iff_getElem]
  intro i j hi hj hij k
  have hi' : i < xs.length:=by simpa [hsz] using hi
  have hj' : j < xs.length:=by simpa [hsz] using hj
  have:=h3 i j (Nat.zero_le _) hij hj'
  rw[getElem!_pos d' i (by omega),getElem!_pos d' j (by omega)]at this
  have hH:=hd.perm (Nat.le_refl _) h2
  have a1:=hH.all i hi'
  have a2:=hH.all j hj'
  rw[getElem!_pos d' i (by omega)]at a1
  rw[getElem!_pos d' j (by omega)]at a2
  rw[hnl]at this
  exact this (.inl ⟨a2,a1,by simpa using k⟩)
 ·
  have:=h2.2.2
  have e1:xs.toArray.extract 0 xs.length=xs.toArray:=by simp
  have e2:d'.extract 0 xs.length=d' := by rw[←hsz];simp
  rw[e1,e2]at this
  simpa using this
end Go.Proofs.YthmcpmnhdbeahaaGreat.V
set_option maxHeartbeats 4000000
namespace Go.Proofs.YthmcpmnhdbeahaaGreat.V
open Go Go.RowKit Go.Proofs.YthmcpmnhdbeahaaGreat.D Go.Proofs.YthmcpmnhdbeahaaGreat.P
def CrP (g:List (List Int)) (m:Int) (u r:List Int) (n:Nat):Prop:=∀x:Int,0≤x→x < n→∀y:Int,0≤y→y < n→T g x y < n→rd r (T g x y)=(rd r x+rd u x*rd r y)%m
theorem CrP.pre {g:List (List Int)} {m:Int} {u r r' : List Int} {n n' : Nat} (h:CrP g m u r n) (hn:n' ≤ n) (hg:Grp g) (hN:n≤g.length) (he:∀i:Int,0≤i→i < n' → rd r' i=rd r i):CrP g m u r' n' := by
 intro x x0 x1 y y0 y1 ht
 have e:=h x x0 (by omega) y y0 (by omega) (by omega)
 obtain⟨t0,_⟩:=hg.ent x y x0 (by omega) y0 (by omega)
 rw[he x x0 x1,he y y0 y1,he _ t0 ht]
 exact e
theorem Zih {g:List (List Int)} (hg:Grp g) {m:Int} {u r:List Int}:CrP g m u r g.length↔Crs g m u r :=
 ⟨fun h x x0 x1 y y0 y1=>h x x0 x1 y y0 y1 (hg.ent x y x0 x1 y0 y1).2,fun h x x0 x1 y y0 y1 _=>h x x0 x1 y y0 y1⟩
theorem Zgz (k:Nat) (z:Int):rd (List.replicate k 0) z=0:=by
 show(List.replicate k (0:Int)).getD z.toNat 0=0
 rw[List.getD_eq_getElem?_getD,List.getElem?_replicate]
 split <;> rfl
theorem Zif {g:List (List Int)} (hg:Grp g) {m:Int} {u h:List Int} (hm:Mdl g m u) (hl:h.length=nB g 1) (ha:AllIn m h):coM g m u 1 (V h)↔Crs g m u (0 :: h):=by
 have m2:=hm.m2
 obtain⟨c1,c2⟩:=nA_bd hg (e:=2) (by omega)
 have hc:Co g m 2 (List.replicate (nB g 2) 0):=⟨by omega,by rw[List.length_replicate];exact c2,Zb8 fun x hx=>by rw[List.eq_of_mem_replicate hx];omega⟩
 have e:=Zmz hg (v:=List.replicate (nB g 2) 0) (w:=List.replicate (nB g 2) 0) hm hc hl ha List.length_replicate (fun i hi=>by rw[Zgz];exact⟨0,by omega⟩)
 have hz:∀x y,At g (List.replicate (nB g 2) 0) [x,y]=0:=fun x y=>by
  unfold At
  by_cases k:ZcM [x,y]
  ·
   rw[ZbU k,Zgz]
  ·
   rw[ZbW k]
 have e1:ConP g m u (List.replicate (nB g 2) 0) (0 :: h) g.length↔Crs g m u (0 :: h):=by
  rw[←Zih hg]
  constructor
  ·
   intro q x x0 x1 y y0 y1 t
   have:=q x x0 x1 y y0 y1 t
   rw[hz,Int.add_zero]at this
   exact this.symm
  ·
   intro q x x0 x1 y y0 y1 t
   rw[hz,Int.add_zero]
   exact(q x x0 x1 y y0 y1 t).symm
 rw[←e1,e]
 have hp:∀i:Nat,V (List.replicate (nB g 2) 0++h) i=pad (nB g 2) (V h) i:=fun i=>by
  unfold pad
  by_cases k:i < nB g 2
  ·
   rw[if_pos k]
   show rd (List.replicate (nB g 2) 0++h) (i:Int)=0
   rw[Zc4 (by rw[List.length_replicate];exact k),Zgz]
  ·
   rw[if_neg k]
   show rd (List.replicate (nB g 2) 0++h) (i:Int)=_
   rw[ZcO (by rw[List.length_replicate];omega),List.length_replicate]
   rfl
 exact⟨fun q => .alike (show Sp m _ _ _ from q) fun i _=>Zca (hp i).symm,fun q => .alike (show Sp m _ _ _ from q) fun i _=>Zca (hp i)⟩
theorem Zma {α : Type} {F : α → List (List Int)} {c:Nat} (h:∀x,(F x).length=c):∀l:List α,(l.flatMap F).length=l.length*c:=by
 intro l
 induction l with
 | nil=>simp
 | cons x l ih=>rw[List.flatMap_cons,List.length_append,ih,h,List.length_cons,Nat.succ_mul];omega
noncomputable def muls (m:Int) (r:List Int) (k:Nat) (x:List Int):List (List Int):=(List.range (m / rd r (k:Int)).toNat).map fun c:Nat=>mix m 1 x (c:Int) r
noncomputable def allL (m:Int) (p:List (List Int)) (W:Nat):Nat→List (List Int)
 | 0=>[List.replicate W 0]
 | k+1=>ite_ (row p (k:Int)=[]) (allL m p W k) ((allL m p W k).flatMap (muls m (row p (k:Int)) k))
theorem Zjc (m:Int) (r:List Int) (k:Nat) (x:List Int):(muls m r k x).length=(m / rd r (k:Int)).toNat:=by simp[muls]
theorem ZdC {m:Int} {p:List (List Int)} {W k:Nat} (h:row p (k:Int)=[]):allL m p W (k+1)=allL m p W k:=by
 conv=>lhs;unfold allL
 exact ZbU h _ _
theorem ZdD {m:Int} {p:List (List Int)} {W k:Nat} (h:¬ row p (k:Int)=[]):allL m p W (k+1)=(allL m p W k).flatMap (muls m (row p (k:Int)) k):=by
 conv=>lhs;unfold allL
 exact ZbW h _ _
theorem Zjh {m:Int} (m2:2≤m) {W:Nat} {p:List (List Int)} (ht:PTab m W p) {k:Nat} (hk:k < W) (hr:¬ row p (k:Int)=[]):0 < rd (row p (k:Int)) (k:Int)∧rd (row p (k:Int)) (k:Int) < m∧1≤m / rd (row p (k:Int)) (k:Int)∧m / rd (row p (k:Int)) (k:Int)≤m:=by
 have hP:=ht.prow hk hr
 obtain⟨a0,a1⟩:=hP.ent (k:Int) (by omega) (by rw[hP.len];omega)
 have p0:=hP.pos
 exact⟨p0,a1,(Int.le_ediv_iff_mul_le p0).2 (by omega),Int.ediv_le_self _ (by omega)⟩
theorem ZiQ {m:Int} (m2:2≤m) (m12:m≤12) {W:Nat} {p:List (List Int)} (ht:PTab m W p):∀k,k≤W→(allL m p W k).length≤12 ^ k∧0 < (allL m p W k).length:=by
 intro k
 induction k with
 | zero=>intro _;simp[allL]
 | succ k ih =>
  intro hk
  obtain⟨h1,h2⟩:=ih (by omega)
  rw[Nat.pow_succ]
  by_cases hr:row p (k:Int)=[]
  ·
   rw[ZdC hr];omega
  ·
   obtain⟨b0,b1,b2,b3⟩:=Zjh m2 ht (show k < W by omega) hr
   rw[ZdD hr,Zma (Zjc m (row p (k:Int)) k)]
   exact⟨Nat.mul_le_mul h1 (by omega),Nat.mul_pos h2 (by omega)⟩
theorem ZeT {m:Int} (m2:2≤m) {W:Nat} {p:List (List Int)} {M:Vc→Prop} (hM:Lead m W p M):∀k,k≤W→∀r∈allL m p W k,r.length=W∧AllIn m r∧M (V r):=by
 intro k
 induction k with
 | zero =>
  intro _ r hr
  obtain rfl:r=List.replicate W 0:=by simpa [allL] using hr
  refine⟨List.length_replicate,Zb8 fun x hx=>by rw[List.eq_of_mem_replicate hx];omega,?_⟩
  exact hM.sub.alike _ _ hM.sub.zero fun i _=>Zca (Zgz W (i:Int)).symm
 | succ k ih =>
  intro hk r hr
  have ih:=ih (by omega)
  by_cases hn:row p (k:Int)=[]
  ·
   rw[ZdC hn]at hr;exact ih r hr
  ·
   rw[ZdD hn,List.mem_flatMap]at hr
   obtain⟨x,hx,hr⟩:=hr
   obtain⟨c,_,rfl⟩:=List.mem_map.1 hr
   obtain⟨x1,x2,x3⟩:=ih x hx
   refine⟨by rw[Zcx,x1],Zgv (by omega),?_⟩
   refine hM.sub.alike _ _ (hM.sub.lin _ _ x3 (hM.own k (by omega) hn) (c:Int)) fun i hi => ?_
   have:=Ze5 (m:=m) (x:=1) (a:=x) (y:=(c:Int)) (b:=row p (k:Int)) (i:=i) (by omega)
   rwa[Int.one_mul]at this
theorem Zlh {m:Int} (m2:2≤m) {W:Nat} {p:List (List Int)} {M:Vc→Prop} (hM:Lead m W p M) {x:List Int} (hx:x.length=W) (ha:AllIn m x) (hxM:M (V x)):∀k,k≤W→∃y∈allL m p W k,∀i:Nat,i < k→rd y (i:Int)=rd x (i:Int):=by
 intro k
 induction k with
 | zero=>intro _;exact⟨List.replicate W 0,by simp[allL],fun i hi=>by omega⟩
 | succ k ih =>
  intro hk
  obtain⟨y,hy,he⟩:=ih (by omega)
  obtain⟨y1,y2,y3⟩:=ZeT m2 hM k (by omega) y hy
  have hd:M fun i=>V x i+(-1)*V y i:=hM.sub.lin _ _ hxM y3 (-1)
  have hdv:=hM.lead _ hd k (by omega) fun i hi=>by
   show m∣rd x (i:Int) + -1*rd y (i:Int)
   rw[he i hi];exact⟨0,by omega⟩
  have hdv:dv m p k∣rd x (k:Int) + -1*rd y (k:Int):=hdv
  obtain⟨a0,a1⟩:=ha (k:Int) (by omega) (by omega)
  obtain⟨b0,b1⟩:=y2 (k:Int) (by omega) (by omega)
  by_cases hn:row p (k:Int)=[]
  ·
   rw[ZdC hn]
   refine⟨y,hy,fun i hi => ?_⟩
   by_cases e:i=k
   ·
    subst e
    rw[show dv m p i=m from if_pos hn]at hdv
    have hd2:m∣rd x (i:Int) - rd y (i:Int):=by rwa[show rd x (i:Int) - rd y (i:Int)=rd x (i:Int) + -1*rd y (i:Int)by omega]
    have:=Int.emod_eq_emod_iff_emod_sub_eq_zero.2 (Int.emod_eq_zero_of_dvd hd2)
    rw[Int.emod_eq_of_lt a0 a1,Int.emod_eq_of_lt b0 b1]at this
    exact this.symm
   ·
    exact he i (by omega)
  ·
   have hP:=hM.tab.prow (show k < W by omega) hn
   obtain⟨p0,p1,p2,p3⟩:=Zjh m2 hM.tab (show k < W by omega) hn
   have hdd:dv m p k=rd (row p (k:Int)) (k:Int):=if_neg hn
   obtain⟨_,_,hdm⟩:=dv_bd (show 0 < m by omega) hM.tab (show k < W by omega)
   rw[hdd]at hdv hdm
   obtain⟨q,hq⟩:=hdv
   obtain⟨s,hs⟩:=hdm
   have hms:m / rd (row p (k:Int)) (k:Int)=s:=by
    conv=>lhs;rw[hs]
    exact Int.mul_ediv_cancel_left _ (by omega)
   rw[hms]at p2
   have c0:=Int.emod_nonneg q (show s≠0 by omega)
   have c1:=Int.emod_lt_of_pos q (show 0 < s by omega)
   rw[ZdD hn]
   refine⟨mix m 1 y (((q%s).toNat:Nat):Int) (row p (k:Int)),List.mem_flatMap.2 ⟨y,hy,List.mem_map.2 ⟨(q%s).toNat,List.mem_range.2 (by rw[hms];omega),rfl⟩⟩,fun i hi => ?_⟩
   rw[ZdR (by omega),Int.toNat_of_nonneg c0,Int.one_mul]
   by_cases e:i=k
   ·
    subst e
    have e1:rd y (i:Int)+q%s*rd (row p (i:Int)) (i:Int)=rd x (i:Int)+m*(-(q / s)):=by
     have h1:=Int.mul_ediv_add_emod q s
     have h2:rd (row p (i:Int)) (i:Int)*q=rd (row p (i:Int)) (i:Int)*(s*(q / s))+rd (row p (i:Int)) (i:Int)*(q%s):=by rw[←Int.mul_add,h1]
     rw[←Int.mul_assoc,←hs]at h2
     rw[Int.mul_comm (q%s),Int.mul_neg]
     omega
    rw[e1,Int.add_mul_emod_self_left,Int.emod_eq_of_lt a0 a1]
   ·
    rw[hP.zero i (by omega),Int.mul_zero,Int.add_zero,he i (by omega)]
    obtain⟨d0,d1⟩:=ha (i:Int) (by omega) (by omega)
    exact Int.emod_eq_of_lt d0 d1
theorem Zlg {m:Int} (m2:2≤m) {W:Nat} {p:List (List Int)} {M:Vc→Prop} (hM:Lead m W p M):∀k,k≤W→(allL m p W k).Pairwise fun r s=>∃i:Nat,i < k∧rd r (i:Int)≠rd s (i:Int):=by
 intro k
 induction k with
 | zero=>intro _;exact List.pairwise_singleton _ _
 | succ k ih =>
  intro hk
  have ih:=ih (by omega)
  by_cases hn:row p (k:Int)=[]
  ·
   rw[ZdC hn]
   exact ih.imp fun⟨i,hi,h⟩=>⟨i,by omega,h⟩
  ·
   have hP:=hM.tab.prow (show k < W by omega) hn
   obtain⟨p0,p1,p2,p3⟩:=Zjh m2 hM.tab (show k < W by omega) hn
   obtain⟨_,_,hdm⟩:=dv_bd (show 0 < m by omega) hM.tab (show k < W by omega)
   rw[show dv m p k=rd (row p (k:Int)) (k:Int)from if_neg hn]at hdm
   obtain⟨s,hs⟩:=hdm
   have hms:m / rd (row p (k:Int)) (k:Int)=s:=by
    conv=>lhs;rw[hs]
    exact Int.mul_ediv_cancel_left _ (by omega)
   rw[ZdD hn,List.pairwise_flatMap]
   constructor
   ·
    intro x hx
    obtain⟨x1,x2,x3⟩:=ZeT m2 hM k (by omega) x hx
    unfold muls
    rw[List.pairwise_map]
    refine(List.pairwise_lt_range).imp_of_mem fun {c c'} hc hc' hcc=>⟨k,by omega,fun e => ?_⟩
    have lc:=List.mem_range.1 hc
    have lc' := List.mem_range.1 hc'
    rw[ZdR (by omega),ZdR (by omega)]at e
    have hd:=Int.emod_eq_emod_iff_emod_sub_eq_zero.1 e
    have hd:=Int.dvd_of_emod_eq_zero hd
    have e2:1*rd x (k:Int)+(c:Int)*rd (row p (k:Int)) (k:Int) - (1*rd x (k:Int)+(c' : Int)*rd (row p (k:Int)) (k:Int)) = -(((c' : Int) - c)*rd (row p (k:Int)) (k:Int)):=by rw[Int.sub_mul];omega
    rw[e2]at hd
    have hd:=(Int.dvd_neg).1 hd
    have b1:0 < ((c' : Int) - c)*rd (row p (k:Int)) (k:Int):=Int.mul_pos (by omega) p0
    have b2:((c' : Int) - c)*rd (row p (k:Int)) (k:Int) < m:=by
     have:((c' : Int) - c) < s:=by omega
     have:=Int.mul_lt_mul_of_pos_right this p0
     rw[Int.mul_comm s,←hs]at this
     exact this
    have:=Int.le_of_dvd b1 hd
    omega
   ·
    refine ih.imp_of_mem fun {x x'} hx hx' ⟨i,hi,hne⟩ r hr s' hs' => ⟨i,by omega,?_⟩
    obtain⟨c,_,rfl⟩:=List.mem_map.1 hr
    obtain⟨c', _,rfl⟩:=List.mem_map.1 hs'
    obtain⟨x1,x2,_⟩:=ZeT m2 hM k (by omega) x hx
    obtain⟨y1,y2,_⟩:=ZeT m2 hM k (by omega) x' hx'
    obtain⟨a0,a1⟩:=x2 (i:Int) (by omega) (by omega)
    obtain⟨b0,b1⟩:=y2 (i:Int) (by omega) (by omega)
    rw[ZdR (by omega),ZdR (by omega),hP.zero i hi,Int.mul_zero,Int.mul_zero,Int.add_zero,Int.add_zero,Int.one_mul,Int.one_mul,Int.emod_eq_of_lt a0 a1,Int.emod_eq_of_lt b0 b1]
    exact hne
theorem spanL {m:Int} (m2:2≤m) (m12:m≤12) {W:Nat} (hW:W≤8) {p:List (List Int)} {M:Vc→Prop} (hM:Lead m W p M) :
  ZO.f m p=(ZC.f (allL m p W W) (fun z0 z1=>(Zy.f z0 z1).map fun z=>z)).bind fun t=>some (t,m,p):=by
 have hl:=hM.tab.len
 have l2:∀x:List Int,([x]:List (List Int)).length=1:=fun _=>rfl
 have big:∀k,k≤8→(12:Nat) ^ k≤429981696:=fun k hk=>Nat.le_trans (Nat.pow_le_pow_right (by omega) hk) (by decide)
 have main:=up W (fun k=>ZO.l0 (W:Int) (k:Int) m p (allL m p W k)) (fun k hk=>by
  obtain⟨n1,n2⟩:=ZiQ m2 m12 hM.tab k (by omega)
  have hb:=big k (by omega)
  by_cases hn:row p (k:Int)=[]
  ·
   have e0:(row p (k:Int)).length=0:=by rw[hn];rfl
   rw[ZdC hn,ZO.l0_eq,wn (j:=k) (by omega)]
   ((with_reducible repeat (first|refine Zq (by first|assumption|omega|rfl|exact B_pos (by omega)) ?_|refine Zp (by first|assumption|omega|decide|exact B_not (by omega)) ?_|refine Zk (by first|assumption) ?_|dsimp only));first|done|(with_reducible rfl)|simp (disch:=omega) only[w64]|(show False;done))
  ·
   have hP:=hM.tab.prow hk hn
   have pl:=hP.len
   obtain⟨p0,p1,p2,p3⟩:=Zjh m2 hM.tab hk hn
   have wq:wrapI (Int.tdiv m (rd (row p (k:Int)) (k:Int)))=(((m / rd (row p (k:Int)) (k:Int)).toNat:Nat):Int):=by
    rw[Zhm (by omega),w64 (by omega) (by omega)];omega
   rw[ZdD hn]
   obtain⟨old,ho⟩:∃old,old=allL m p W k:=⟨_,rfl⟩
   obtain⟨rw_,hrw⟩:∃rw_,rw_=row p (k:Int):=⟨_,rfl⟩
   obtain⟨cnt,hcnt⟩:∃cnt,cnt=(m / rd (row p (k:Int)) (k:Int)).toNat:=⟨_,rfl⟩
   rw[←hcnt]at wq
   have hcl:cnt≤12:=by omega
   have n1' : old.length≤12 ^ k:=by rw[ho];exact n1
   have outer:=up old.length (fun j=>ZO.l1 (k:Int) rw_ (W:Int) (k:Int) old (old.length:Int) (j:Int) m p ((old.take j).flatMap (muls m rw_ k))) (fun j hj=>by
    have hx:row old (j:Int)=old[j]:=ZdW hj
    have hmem:old[j]∈allL m p W k:=by rw[←ho];exact List.getElem_mem hj
    obtain⟨x1,x2,x3⟩:=ZeT m2 hM k (by omega) old[j] hmem
    have ml:((old.take j).flatMap (muls m rw_ k)).length=j*cnt:=by
     rw[Zma (Zjc m rw_ k),List.length_take,Nat.min_eq_left (by omega),hrw,hcnt]
    have mb:j*cnt≤429981696*12:=Nat.mul_le_mul (by rw[←ho]at n1;omega) hcl
    have inner:=up cnt (fun c=>ZO.l2 (k:Int) rw_ old[j] (W:Int) (k:Int) old (old.length:Int) (j:Int) (cnt:Int) (c:Int) m p ((old.take j).flatMap (muls m rw_ k)++(List.range c).map fun c:Nat=>mix m 1 old[j] (c:Int) rw_)) (fun c hc=>by
     have hcb:=combined m2 m12 (p:=p) (x:=1) (y:=(c:Int)) (a:=old[j]) (b:=rw_) x2 (hrw ▸ hP.ent) (by rw[hrw];omega) (by omega) (by omega) (by omega) (by omega) (by omega)
     have cl:((old.take j).flatMap (muls m rw_ k)++(List.range c).map fun c:Nat=>mix m 1 old[j] (c:Int) rw_).length=j*cnt+c:=by
      rw[List.length_append,ml,List.length_map,List.length_range]
     rw[List.range_succ,List.map_append,List.map_singleton,←List.append_assoc,ZO.l2_eq,wn (j:=c) (by omega),hcb,Option.bind_some,cl,l2]
     ((with_reducible repeat (first|refine Zq (by first|assumption|omega|rfl|exact B_pos (by omega)) ?_|refine Zp (by first|assumption|omega|decide|exact B_not (by omega)) ?_|refine Zk (by first|assumption) ?_|dsimp only));first|done|(with_reducible rfl)|simp (disch:=omega) only[w64]|(show False;done)))
    have e1:(old.take (j+1)).flatMap (muls m rw_ k)=(old.take j).flatMap (muls m rw_ k)++(List.range cnt).map fun c:Nat=>mix m 1 old[j] (c:Int) rw_:=by
     rw[List.take_succ_eq_append_getElem hj,List.flatMap_append,List.flatMap_singleton,hcnt,←hrw]
     rfl
    simp only[Int.natCast_zero,List.range_zero,List.map_nil,List.append_nil]at inner
    have hrl:rw_.length=W:=by rw[hrw];exact pl
    have wq' : wrapI (Int.tdiv m (rd rw_ (k:Int)))=(cnt:Int):=by rw[hrw];exact wq
    have hr0:¬ rd rw_ (k:Int)=0:=by rw[hrw];omega
    rw[e1,ZO.l1_eq,hx,wq', inner,ZO.l2_eq,wn (j:=j) (by omega)]
    ((with_reducible repeat (first|refine Zq (by first|assumption|omega|rfl|exact B_pos (by omega)) ?_|refine Zp (by first|assumption|omega|decide|exact B_not (by omega)) ?_|refine Zk (by first|assumption) ?_|dsimp only));first|done|(with_reducible rfl)|simp (disch:=omega) only[w64]|(show False;done)))
   simp only[Int.natCast_zero,List.take_zero,List.flatMap_nil,List.take_length]at outer
   rw[←ho,←hrw,ZO.l0_eq,←hrw]
   have hrl:rw_.length=W:=by rw[hrw];exact pl
   have fin:ZO.l1 (k:Int) rw_ (W:Int) (k:Int) old (old.length:Int) (old.length:Int) m p (old.flatMap (muls m rw_ k))=ZO.l0 (W:Int) ((k+1:Nat):Int) m p (old.flatMap (muls m rw_ k)):=by
    rw[ZO.l1_eq,if_neg (by omega),wn (j:=k) (by omega)]
   (with_reducible repeat (first|refine Zq (by first|assumption|omega|rfl|exact B_pos (by omega)) ?_|refine Zp (by first|assumption|omega|decide|exact B_not (by omega)) ?_|refine Zk (by first|assumption) ?_|dsimp only))
   rw[outer,fin])
 rw[ZO.f_eq,if_pos rfl,if_pos (by omega),if_pos (by omega)]
 simp only[Int.natCast_zero]at main
 have e0:([List.replicate ((p.length:Int)).toNat (0:Int)]:List (List Int))=allL m p W 0:=by rw[hl,Int.toNat_natCast];rfl
 rw[e0,hl,main,ZO.l0_eq,if_neg (by omega)]
theorem ZmW {m:Int} (m2:2≤m) (m12:m≤12) {W:Nat} (hW:W≤8) {p:List (List Int)} {M:Vc→Prop} (hM:Lead m W p M) :
  ∃S,ZO.f m p=some (S,m,p)∧S.Pairwise (fun r s=>Ll W r s)∧(∀r,r∈S↔r.length=W∧AllIn m r∧M (V r))∧S.length≤12 ^ W:=by
 obtain⟨n1,n2⟩:=ZiQ m2 m12 hM.tab W (Nat.le_refl _)
 have hb:(12:Nat) ^ W≤429981696:=Nat.le_trans (Nat.pow_le_pow_right (by omega) hW) (by decide)
 have hin:=ZeT m2 hM W (Nat.le_refl _)
 obtain⟨S,s1,s2,s3⟩:=Zh6 (f:=_root_.Go.Proofs.YthmcpmnhdbeahaaGreat.R.ZC.f) (xs:=allL m p W W) (W:=W) (fun r hr=>(hin r hr).1) (C:=fun z0 z1=>(Zy.f z0 z1).map fun z=>z) (fun x y hx hy=>by
  obtain⟨c,c1,c2,_⟩:=ZgG hx hy (by omega)
  exact⟨c,by show Option.map _ (Zy.f x y)=_;rw[c1];rfl,c2⟩) (fun H L c' hs ho hl hH=>ZmV ho (by omega) hH)
 have e1:ZC.f (allL m p W W) (fun z0 z1=>(Zy.f z0 z1).map fun z=>z)=some S:=s1
 have hW' : ∀r∈S,r.length=W:=fun r hr=>(hin r (s3.mem_iff.1 hr)).1
 have hdif:S.Pairwise fun r s=>∃i:Nat,i < W∧rd r (i:Int)≠rd s (i:Int) :=
  (s3.pairwise_iff (fun {r s} ⟨i,hi,h⟩=>⟨i,hi,fun e=>h e.symm⟩)).2 (Zlg m2 hM W (Nat.le_refl _))
 refine⟨S,?_,?_,fun r => ?_,by rw[s3.length_eq];exact n1⟩
 ·
  rw[spanL m2 m12 hW hM,e1];rfl
 ·
  refine(s2.and hdif).imp fun {r s} ⟨h,i,hi,hne⟩ => ?_
  rcases Ll.tri W r s with q|q|q
  ·
   exact q
  ·
   exact absurd (q i hi) hne
  ·
   exact absurd q h
 ·
  rw[s3.mem_iff]
  refine⟨hin r,fun⟨h1,h2,h3⟩ => ?_⟩
  obtain⟨y,hy,he⟩:=Zlh m2 hM h1 h2 h3 W (Nat.le_refl _)
  rwa[Zci (W:=W) h1 (hin y hy).1 fun i hi=>(he i hi).symm]
end Go.Proofs.YthmcpmnhdbeahaaGreat.V
namespace Go.Proofs.YthmcpmnhdbeahaaGreat.V
open Go Go.RowKit Go.Proofs.YthmcpmnhdbeahaaGreat.D Go.Proofs.YthmcpmnhdbeahaaGreat.P
structure ExC (g:List (List Int)) (m:Int) (u list r:List Int):Prop where
 len:r.length=g.length
 ent:AllIn m r
 con:Crs g m u r
 pre:r.take list.length=list
theorem crs_w {g:List (List Int)} (hg:Grp g) {m:Int} {u r:List Int} (hm:Mdl g m u) (ha:AllIn m r) {x y:Int} (x0:0≤x) (x1:x < r.length) (y0:0≤y) (y1:y < r.length) (hr:r.length≤g.length) :
  Za6.f (wrapI (rd r x+wrapI (rd u x*rd r y))) m=some ((rd r x+rd u x*rd r y)%m):=by
 have m2:=hm.m2;have m12:=hm.m12
 obtain⟨a0,a1⟩:=ha x x0 x1
 obtain⟨b0,b1⟩:=ha y y0 y1
 obtain⟨c0,c1⟩:=ZcK hm x0 (by omega) b0 b1
 rw[w64 (x:=rd u x*rd r y) (by omega) (by omega),w64 (x:=rd r x+rd u x*rd r y) (by omega) (by omega)]
 exact ModW (by omega) (by omega) (by omega) (by omega)
theorem Zia {g:List (List Int)} (hg:Grp g) {m:Int} {u:List Int} (hm:Mdl g m u) (k:Nat) (list0:List Int) {L:Nat} {c:Int} {r2:List (List Int)} {r3:List Int} (ha:AllIn m r3) (hL:r3.length=L+1) (hl:L+1≤g.length) :
  Zn.l1 k list0 (L:Int) c true 0 g m u r2 r3=ite_ (CrP g m u r3 r3.length) ((Zn.f k g m u r3).bind fun t92=>if r2.length+t92.length≤5864062014805 then(Zn.l0 k list0 (L:Int) (wrapI (c+1)) g m u (r2++t92))else none) (Zn.l0 k list0 (L:Int) (wrapI (c+1)) g m u r2):=by
 have n8:=hg.n8
 have m2:=hm.m2;have m12:=hm.m12
 have hlu:=hm.len
 have bad1:∀x:Int,Zn.l1 k list0 (L:Int) c false x g m u r2 r3=Zn.l0 k list0 (L:Int) (wrapI (c+1)) g m u r2:=fun x=>by
  rw[Zn.l1_eq,if_neg (c:=(false=true)) (by decide),if_neg (c:=(false=true)) (by decide)]
  split <;> rfl
 have bad2:∀x y:Int,Zn.l2 k list0 (L:Int) c false x y g m u r2 r3=Zn.l0 k list0 (L:Int) (wrapI (c+1)) g m u r2:=fun x y=>by
  rw[Zn.l2_eq,if_neg (c:=(false=true)) (by decide),bad1]
  split <;> rfl
 have outer:=scan (L+1) (fun x=>Zn.l1 k list0 (L:Int) c true x g m u r2 r3) (fun x=>∀y:Int,0≤y→y < ((L+1:Nat):Int)→T g x y < ((L+1:Nat):Int)→rd r3 (T g x y)=(rd r3 x+rd u x*rd r3 y)%m) (Zn.l0 k list0 (L:Int) (wrapI (c+1)) g m u r2) (fun x x0 x1 _=>by
  have rx:=hg.row x x0 (by omega)
  have inner:=scanI (L+1) (fun y=>Zn.l2 k list0 (L:Int) c true x y g m u r2 r3) (fun y=>T g x y < ((L+1:Nat):Int)→rd r3 (T g x y)=(rd r3 x+rd u x*rd r3 y)%m) (Zn.l0 k list0 (L:Int) (wrapI (c+1)) g m u r2) (Zn.l1 k list0 (L:Int) c true (x+1) g m u r2 r3) (fun y y0 y1 _=>by
   obtain⟨t0,t1⟩:=hg.ent x y x0 (by omega) y0 (by omega)
   have ew:=crs_w hg hm ha x0 (by omega) y0 (by omega) (by omega)
   refine⟨fun h => ?_,fun h => ?_⟩
   ·
    by_cases ht:T g x y < ((L+1:Nat):Int)
    ·
     have h:=h ht
     rw[Zn.l2_eq,w64 (x:=y+1) (by omega) (by omega)]
     (with_reducible repeat (first|refine Zq (by first|assumption|omega|rfl|exact B_pos (by omega)) ?_|refine Zp (by first|assumption|omega|decide|exact B_not (by omega)) ?_|refine Zk (by first|assumption) ?_|dsimp only))
     rw[decide_eq_true h]
    ·
     rw[Zn.l2_eq,w64 (x:=y+1) (by omega) (by omega)]
     clear ew
     ((with_reducible repeat (first|refine Zq (by first|assumption|omega|rfl|exact B_pos (by omega)) ?_|refine Zp (by first|assumption|omega|decide|exact B_not (by omega)) ?_|refine Zk (by first|assumption) ?_|dsimp only));first|done|(with_reducible rfl)|simp (disch:=omega) only[w64]|(show False;done))
   ·
    have ht:T g x y < ((L+1:Nat):Int):=by
     by_cases q:T g x y < ((L+1:Nat):Int)
     ·
      exact q
     ·
      exact absurd (fun k=>absurd k q) h
    have h:¬ rd r3 (T g x y)=(rd r3 x+rd u x*rd r3 y)%m:=fun k=>h fun _=>k
    rw[Zn.l2_eq]
    (with_reducible repeat (first|refine Zq (by first|assumption|omega|rfl|exact B_pos (by omega)) ?_|refine Zp (by first|assumption|omega|decide|exact B_not (by omega)) ?_|refine Zk (by first|assumption) ?_|dsimp only))
    rw[decide_eq_false h,bad2]) (fun _=>by
     rw[Zn.l2_eq,w64 (x:=x+1) (by omega) (by omega)]
     (with_reducible repeat (first|refine Zq (by first|assumption|omega|rfl|exact B_pos (by omega)) ?_|refine Zp (by first|assumption|omega|decide|exact B_not (by omega)) ?_|refine Zk (by first|assumption) ?_|dsimp only)))
  refine⟨fun h => ?_,fun h => ?_⟩ <;> rw[Zn.l1_eq] <;> (with_reducible repeat (first|refine Zq (by first|assumption|omega|rfl|exact B_pos (by omega)) ?_|refine Zp (by first|assumption|omega|decide|exact B_not (by omega)) ?_|refine Zk (by first|assumption) ?_|dsimp only))
  ·
   exact inner.1 h
  ·
   exact inner.2 h)
 rcases outer with ⟨h1,h2⟩|⟨j,j0,j1,_,h1,_,h2⟩
 ·
  rw[ZbU (show CrP g m u r3 r3.length from by rw[hL];exact h1),h2,Zn.l1_eq]
  (with_reducible repeat (first|refine Zq (by first|assumption|omega|rfl|exact B_pos (by omega)) ?_|refine Zp (by first|assumption|omega|decide|exact B_not (by omega)) ?_|refine Zk (by first|assumption) ?_|dsimp only))
 ·
  rw[ZbW (show ¬ CrP g m u r3 r3.length from fun q=>h1 (by rw[hL]at q;exact q j j0 j1))]
  exact h2
theorem ZlJ {a b:Nat} (h:a=b+1):(12:Nat) ^ a=12*12 ^ b:=by rw[h,Nat.pow_succ,Nat.mul_comm]
theorem ZjQ {g:List (List Int)} (hg:Grp g) {m:Int} {u:List Int} (hm:Mdl g m u):∀(k:Nat) (list:List Int),AllIn m list→list.length≤g.length→g.length < list.length+k→CrP g m u list list.length →
  ∃A,Zn.f k g m u list=some A∧A.Pairwise (fun r s=>Ll g.length r s)∧(∀r,r∈A↔ExC g m u list r)∧A.length≤12 ^ (g.length - list.length):=by
 have n8:=hg.n8
 have m2:=hm.m2;have m12:=hm.m12
 intro k
 induction k with
 | zero=>intro list _ hl hk _;omega
 | succ k ih =>
  intro list ha hl hk hC
  rw[Zn.f_eq,Zao.f_eq,Option.bind_some]
  by_cases hN:(list.length:Int)=(g.length:Int)
  ·
   rw[if_pos hN]
   have hN' : list.length=g.length:=by omega
   refine⟨[list],rfl,List.pairwise_singleton _ _,fun r => ?_,by simp[hN']⟩
   rw[List.mem_singleton]
   constructor
   ·
    rintro rfl
    exact⟨hN', ha,(Zih hg).1 (by rw[←hN'];exact hC),List.take_length⟩
   ·
    intro hr
    have:=hr.pre
    rw[List.take_of_length_le (by rw[hr.len];omega)]at this
    exact this
  rw[if_neg hN]
  have hp12:=ZlJ (show g.length - list.length=(g.length - (list.length+1))+1 by omega)
  obtain⟨P,hP⟩:∃P,P=(12:Nat) ^ (g.length - (list.length+1)):=⟨_,rfl⟩
  have hPb:P≤429981696:=by rw[hP];exact Nat.le_trans (Nat.pow_le_pow_right (by omega) (show g.length - (list.length+1)≤8 by omega)) (by decide)
  rw[←hP]at hp12
  have up1:∀r' , ExC g m u list r' → ExC g m u (list++[rd r' (list.length:Int)]) r' ∧ 0≤rd r' (list.length:Int)∧rd r' (list.length:Int) < m:=fun r' hr=>by
   have rl:=hr.len
   obtain⟨b0,b1⟩:=hr.ent (list.length:Int) (by omega) (by omega)
   refine⟨⟨hr.len,hr.ent,hr.con,?_⟩,b0,b1⟩
   rw[List.length_append,List.length_singleton,ZcR (by omega),hr.pre]
  have down:∀c r', ExC g m u (list++[c]) r' → ExC g m u list r' ∧ rd r' (list.length:Int)=c:=fun c r' hr=>by
   have hp:=hr.pre
   have rl:=hr.len
   rw[List.length_append,List.length_singleton,ZcR (by omega)]at hp
   obtain⟨h1,h2⟩:=List.append_inj' hp rfl
   exact⟨⟨hr.len,hr.ent,hr.con,h1⟩,by simpa using h2⟩
  have loop:∀(n:Nat) (c:Int) (r2:List (List Int)),0≤c→c+n=m→r2.Pairwise (fun r s=>Ll g.length r s)→(∀r,r∈r2↔ExC g m u list r∧rd r (list.length:Int) < c)→r2.length≤c.toNat*P →
    ∃A,Zn.l0 k list (list.length:Int) c g m u r2=some A∧A.Pairwise (fun r s=>Ll g.length r s)∧(∀r,r∈A↔ExC g m u list r)∧A.length≤m.toNat*P:=by
   intro n
   induction n with
   | zero =>
    intro c r2 c0 hcm h1 h2 h3
    refine⟨r2,?_,h1,fun r => ?_,by rw[show m.toNat=c.toNat by omega];exact h3⟩
    ·
     rw[Zn.l0_eq,if_neg (by omega)]
    ·
     rw[h2]
     exact⟨fun h=>h.1,fun h=>⟨h,by have:=(up1 r h).2.2;omega⟩⟩
   | succ n ihn =>
    intro c r2 c0 hcm h1 h2 h3
    have hO:=Own_ list (by omega)
    have l1:([c]:List Int).length=1:=rfl
    have e1:(list++[c]).length=list.length+1:=by simp
    have ha' := ha.append (ZfD c0 (show c < m by omega))
    have ht:=Zia hg hm k list (L:=list.length) (c:=c) (r2:=r2) ha' e1 (by omega)
    have hcP:c.toNat*P≤12*429981696:=Nat.mul_le_mul (by omega) hPb
    have wc:wrapI (c+1)=c+1:=w64 (by omega) (by omega)
    rw[wc]at ht
    have ec:(c+1).toNat=c.toNat+1:=by omega
    by_cases hq:CrP g m u (list++[c]) (list++[c]).length
    ·
     obtain⟨A', a1,a2,a3,a4⟩:=ih (list++[c]) ha' (by omega) (by omega) hq
     rw[e1,←hP]at a4
     rw[ZbU hq,a1,Option.bind_some,if_pos (by omega)]at ht
     obtain ⟨A,b1,b2,b3,b4⟩:=ihn (c+1) (r2++A') (by omega) (by omega) (by
      rw[List.pairwise_append]
      refine⟨h1,a2,fun r hr s hs => ?_⟩
      obtain⟨r1,r3⟩:=(h2 r).1 hr
      obtain⟨s1,s3⟩:=down c s ((a3 s).1 hs)
      refine⟨list.length,by omega,fun i hi => ?_,by omega⟩
      rw[←Zhk r1.pre (i:=(i:Int)) (by omega) (by omega),←Zhk s1.pre (i:=(i:Int)) (by omega) (by omega)]) (fun r=>by
      rw[List.mem_append,h2,a3]
      constructor
      ·
       rintro(⟨h,hc⟩|h)
       ·
        exact⟨h,by omega⟩
       ·
        obtain⟨s1,s2⟩:=down c r h
        exact⟨s1,by omega⟩
      ·
       rintro⟨h,hc⟩
       by_cases q:rd r (list.length:Int)=c
       ·
        have:=(up1 r h).1
        rw[q]at this
        exact .inr this
       ·
        exact .inl ⟨h,by omega⟩) (by rw[List.length_append,ec,Nat.succ_mul];omega)
     refine⟨A,?_,b2,b3,b4⟩
     rw[Zn.l0_eq,l1,hO,Option.bind_some,ht,if_pos (by omega),if_pos (by omega)]
     exact b1
    ·
     rw[ZbW hq]at ht
     obtain ⟨A,b1,b2,b3,b4⟩:=ihn (c+1) r2 (by omega) (by omega) h1 (fun r=>by
      rw[h2]
      constructor
      ·
       rintro⟨h,hc⟩;exact⟨h,by omega⟩
      ·
       rintro⟨h,hc⟩
       refine⟨h,?_⟩
       by_cases q:rd r (list.length:Int)=c
       ·
        have h5:=(up1 r h).1
        rw[q]at h5
        refine absurd ?_ hq
        exact((Zih hg).2 h5.con).pre (by omega) hg (Nat.le_refl _) fun i i0 i1=>Zhk h5.pre i0 i1
       ·
        omega) (by rw[ec,Nat.succ_mul];omega)
     refine⟨A,?_,b2,b3,b4⟩
     rw[Zn.l0_eq,l1,hO,Option.bind_some,ht,if_pos (by omega),if_pos (by omega)]
     exact b1
  obtain⟨A,a1,a2,a3,a4⟩:=loop m.toNat 0 [] (by omega) (by omega) List.Pairwise.nil (fun r=>⟨fun h=>(by cases h),fun⟨h,hc⟩=>(by have:=(up1 r h).2.1;omega)⟩) (by simp)
  refine⟨A,a1,a2,a3,?_⟩
  rw[hp12]
  exact Nat.le_trans a4 (Nat.mul_le_mul_right P (by omega))
theorem Zhy {g:List (List Int)} (hg:Grp g) {m:Int} {u:List Int} (hm:Mdl g m u):∃A,Z9.f g m u=some A∧A.Pairwise (fun r s=>Ll g.length r s)∧(∀r,r∈A↔ExC g m u [] r)∧A.length≤429981696:=by
 have n8:=hg.n8;have n1:=hg.n1
 have m2:=hm.m2;have m12:=hm.m12
 obtain⟨b1,b2⟩:=nA_bd hg (e:=1) (by omega)
 have hN1:(nB g 1:Int)=g.length - 1:=by rw[b2];show((g.length:Int) - 1) ^ 1=_;rw[Int.pow_succ,Int.pow_zero];omega
 obtain⟨q,q1,q2⟩:=Zj5 hg hm (n:=1) (by omega)
 obtain⟨S,s1,s2,s3,s4⟩:=ZmW m2 m12 (show nB g 1≤8 by omega) q2
 have hb:S.length≤429981696:=Nat.le_trans s4 (Nat.le_trans (Nat.pow_le_pow_right (by omega) (show nB g 1≤8 by omega)) (by decide))
 refine⟨S.map (0 :: ·),?_,?_,fun r => ?_,by rw[List.length_map];exact hb⟩
 ·
  have main:=up S.length (fun j=>Z9.l0 S (S.length:Int) (j:Int) ((S.take j).map (0 :: ·))) (fun j hj=>by
   have hx:row S (j:Int)=S[j]:=ZdW hj
   have hxl:S[j].length=nB g 1:=((s3 _).1 (List.getElem_mem hj)).1
   have hc:=concat2 (a:=[0]) (b:=S[j]) (by simp) (by omega)
   have l1:((S.take j).map (0 :: · : List Int→List Int)).length=j:=by rw[List.length_map,List.length_take];omega
   have l2:∀x:List Int,([x]:List (List Int)).length=1:=fun _=>rfl
   rw[List.take_succ_eq_append_getElem hj,List.map_append,List.map_singleton,Z9.l0_eq,hx,hc,Option.bind_some,l1,l2,wn (j:=j) (by omega)]
   (with_reducible repeat (first|refine Zq (by first|assumption|omega|rfl|exact B_pos (by omega)) ?_|refine Zp (by first|assumption|omega|decide|exact B_not (by omega)) ?_|refine Zk (by first|assumption) ?_|dsimp only))
   rfl)
  simp only[Int.natCast_zero,List.take_zero,List.map_nil,List.take_length]at main
  have q1' : Zbu.f g m u 1=some (m,q):=q1
  rw[Z9.f_eq,q1', Option.bind_some,s1,Option.bind_some]
  show Z9.l0 S (S.length:Int) 0 []=_
  rw[main,Z9.l0_eq,if_neg (by omega)]
 ·
  rw[List.pairwise_map]
  refine s2.imp fun {r s} ⟨j,hj,h1,h2⟩=>⟨j+1,by omega,fun i hi => ?_,?_⟩
  ·
   cases i with
   | zero=>rfl
   | succ i=>exact h1 i (by omega)
  ·
   exact h2
 ·
  rw[List.mem_map]
  constructor
  ·
   rintro⟨h,hh,rfl⟩
   obtain⟨h1,h2,h3⟩:=(s3 h).1 hh
   refine⟨by rw[List.length_cons];omega,Zb8 fun z hz => ?_,(Zif hg hm h1 h2).1 h3,by simp⟩
   rcases List.mem_cons.1 hz with rfl|hz
   ·
    omega
   ·
    exact h2.mem hz
  ·
   intro hr
   have rl:=hr.len
   have h0:=hr.con 0 (by omega) (by omega) 0 (by omega) (by omega)
   rw[hg.one 0 (by omega) (by omega),hm.one hg,Int.one_mul]at h0
   obtain⟨a0,a1⟩:=hr.ent 0 (by omega) (by omega)
   cases r with
   | nil=>simp at rl;omega
   | cons z h =>
    have e:rd (z :: h) 0=z:=rfl
    rw[e]at h0 a0 a1
    have hz:z=0:=by
     have:=Int.emod_emod_of_dvd (z+z) (Int.dvd_refl m)
     have h3:m∣(z+z) - z:=Int.dvd_of_emod_eq_zero (Int.emod_eq_emod_iff_emod_sub_eq_zero.1 (by rw[←h0,Int.emod_eq_of_lt a0 a1]))
     rw[show z+z - z=z by omega]at h3
     have:=Int.emod_eq_zero_of_dvd h3
     rwa[Int.emod_eq_of_lt a0 a1]at this
    subst hz
    rw[List.length_cons]at rl
    have hin:AllIn m h:=Zb8 fun x hx=>hr.ent.mem (List.mem_cons_of_mem _ hx)
    exact⟨h,(s3 h).2 ⟨by omega,hin,(Zif hg hm (by omega) hin).2 hr.con⟩,rfl⟩
theorem ZeY {g:List (List Int)} (hg:Grp g) {m:Int} {u:List Int} (hm:Mdl g m u):∃A,Z9.f g m u=some A∧Zn.f fuel g m u []=some A∧A.Pairwise (fun r s=>Ll g.length r s)∧(∀r,r∈A↔ExC g m u [] r)∧A.length≤429981696:=by
 have n8:=hg.n8
 obtain⟨A,a1,a2,a3,a4⟩:=Zhy hg hm
 obtain⟨A', b1,b2,b3,_⟩:=ZjQ hg hm fuel [] (Zb8 fun x hx=>by cases hx) (by simp) (by rw[ZfR];simp;omega) (fun x x0 x1=>by simp at x1;omega)
 obtain rfl:A=A' := Zet (fun r=>(a3 r).trans (b3 r).symm) a2 b2
 exact⟨A,a1,b1,a2,a3,a4⟩
end Go.Proofs.YthmcpmnhdbeahaaGreat.V
namespace Go.Proofs.YthmcpmnhdbeahaaGreat.V
open Go.RowKit Go.Proofs.YthmcpmnhdbeahaaGreat.D
def chkG (g:List (List Int)):Bool :=
 decide (1≤g.length) && decide (g.length≤8) && (List.range g.length).all fun a=>decide ((row g (a:Int)).length=g.length) && decide (T g 0 (a:Int)=a) && decide (T g (a:Int) 0=a) && ((List.range g.length).any fun b=>decide (T g (a:Int) (b:Int)=0)) &&
  (List.range g.length).all fun b=>decide (0≤T g (a:Int) (b:Int)) && decide (T g (a:Int) (b:Int) < g.length) && (List.range g.length).all fun c=>decide (T g (T g (a:Int) (b:Int)) (c:Int)=T g (a:Int) (T g (b:Int) (c:Int)))
theorem Zdn {g:List (List Int)} (h:chkG g=true):Grp g:=by
 unfold chkG at h
 simp only[Bool.and_eq_true,decide_eq_true_eq,List.all_eq_true,List.any_eq_true,List.mem_range]at h
 obtain⟨⟨h1,h2⟩,h3⟩:=h
 have to:∀{P:Int→Prop},(∀a:Nat,a < g.length→P (a:Int))→∀a:Int,0≤a→a < g.length→P a:=fun {P} H a a0 a1=>by
  have:=H a.toNat (by omega)
  rwa[Int.toNat_of_nonneg a0]at this
 refine⟨h1,h2,to fun a ha=>(h3 a ha).1.1.1.1,fun a b a0 a1 b0 b1 => ?_,to fun a ha=>(h3 a ha).1.1.1.2,to fun a ha=>(h3 a ha).1.1.2,fun a b c a0 a1 b0 b1 c0 c1 => ?_,to fun a ha => ?_⟩
 ·
  refine to (P:=fun a=>∀b:Int,0≤b→b < g.length→0≤T g a b∧T g a b < g.length) (fun a ha=>to fun b hb=>(((h3 a ha).2 b hb).1)) a a0 a1 b b0 b1
 ·
  refine to (P:=fun a=>∀b:Int,0≤b→b < g.length→∀c:Int,0≤c→c < g.length→T g (T g a b) c=T g a (T g b c)) (fun a ha=>to (P:=fun b=>∀c:Int,0≤c→c < g.length→T g (T g (a:Int) b) c=T g (a:Int) (T g b c)) fun b hb=>to fun c hc=>((h3 a ha).2 b hb).2 c hc) a a0 a1 b b0 b1 c c0 c1
 ·
  obtain⟨b,hb,e⟩:=(h3 a ha).1.2
  exact⟨(b:Int),by omega,by omega,e⟩
def cyc (n:Nat):List (List Int):=(List.range n).map fun a:Nat=>(List.range n).map fun b:Nat=>((a:Int)+(b:Int))%(n:Int)
def prd (g h:List (List Int)):List (List Int):=(List.range (g.length*h.length)).map fun x:Nat=>(List.range (g.length*h.length)).map fun y:Nat=>(h.length:Int)*T g ((x:Int) / (h.length:Int)) ((y:Int) / (h.length:Int))+T h ((x:Int)%(h.length:Int)) ((y:Int)%(h.length:Int))
def twd (n:Nat) (more:Int):List (List Int):=(List.range (2*n)).map fun a:Nat=>(List.range (2*n)).map fun b:Nat=>(n:Int)*(((a:Int) / n+(b:Int) / n)%2)+((if(b:Int) / n=1 then(b:Int)%n - (a:Int)%n else(a:Int)%n+(b:Int)%n)+more*((a:Int) / n)*((b:Int) / n))%(n:Int)
theorem Zii:∀n:Nat,n≤8→1≤n→chkG (cyc n)=true:=by decide +kernel
theorem Zky:chkG (prd (cyc 2) (cyc 2))=true∧chkG (prd (cyc 2) (prd (cyc 2) (cyc 2)))=true∧chkG (prd (cyc 2) (cyc 4))=true∧chkG (twd 3 0)=true∧chkG (twd 4 0)=true∧chkG (twd 4 2)=true:=by decide +kernel
structure Ordr (n:Nat) (p:List Int):Prop where
 len:p.length=n
 ent:∀i:Nat,i < n→0≤rd p (i:Int)∧rd p (i:Int) < n
 inj:∀i j:Nat,i < n→j < n→rd p (i:Int)=rd p (j:Int)→i=j
theorem nd_le {α : Type} [DecidableEq α]:∀{l m:List α},l.Nodup→(∀x∈l,x∈m)→l.length≤m.length
 | [],m,_,_=>Nat.zero_le _
 | x :: l,m,hn,hs=>by
  rw[List.nodup_cons]at hn
  have hx:=hs x List.mem_cons_self
  have:=nd_le (l:=l) (m:=m.erase x) hn.2 fun y hy=>(List.mem_erase_of_ne (fun e=>hn.1 (by rw[←e];exact hy))).2 (hs y (List.mem_cons_of_mem _ hy))
  rw[List.length_erase_of_mem hx]at this
  have:=List.length_pos_of_mem hx
  rw[List.length_cons]
  omega
theorem Zlw {n:Nat} {f:Nat→Nat} (hb:∀i,i < n→f i < n) (hi:∀i j,i < n→j < n→f i=f j→i=j):∀k,k < n→∃i,i < n∧f i=k:=by
 intro k hk
 apply Classical.byContradiction
 intro hno
 have hnd:((List.range n).map f).Nodup:=by
  rw[List.Nodup,List.pairwise_map]
  exact List.Pairwise.imp_of_mem (fun {a b} ha hb h e=>h (hi a b (List.mem_range.1 ha) (List.mem_range.1 hb) e)) (List.nodup_range (n:=n))
 have:=nd_le (m:=(List.range n).erase k) hnd (fun x hx=>by
  obtain⟨i,hi', rfl⟩:=List.mem_map.1 hx
  exact(List.mem_erase_of_ne (fun e=>hno ⟨i,List.mem_range.1 hi', e⟩)).2 (List.mem_range.2 (hb i (List.mem_range.1 hi'))))
 rw[List.length_erase_of_mem (List.mem_range.2 hk),List.length_map,List.length_range]at this
 omega
theorem Ordr.onto {n:Nat} {p:List Int} (h:Ordr n p) {k:Int} (k0:0≤k) (k1:k < n):∃i:Nat,i < n∧rd p (i:Int)=k:=by
 obtain⟨i,hi,e⟩:=Zlw (n:=n) (f:=fun i=>(rd p (i:Int)).toNat) (fun i hi=>by have:=h.ent i hi;omega) (fun i j hi hj e=>h.inj i j hi hj (by have:=h.ent i hi;have:=h.ent j hj;omega)) k.toNat (by omega)
 exact⟨i,hi,by have:=h.ent i hi;omega⟩
theorem Zkk {g g' : List (List Int)} (hg:Grp g) {p:List Int} (hp:Ordr g.length p) (h0:rd p 0=0) (hl:g'.length=g.length) (hr:∀a:Nat,a < g.length→(row g' (a:Int)).length=g.length) (hT:∀a b:Nat,a < g.length→b < g.length→T g' (rd p (a:Int)) (rd p (b:Int))=rd p (T g (a:Int) (b:Int))):Grp g' := by
 have n1:=hg.n1;have n8:=hg.n8
 have hTi:∀a b:Int,0≤a→a < g.length→0≤b→b < g.length→T g' (rd p a) (rd p b)=rd p (T g a b):=fun a b a0 a1 b0 b1=>by
  have:=hT a.toNat b.toNat (by omega) (by omega)
  rwa[Int.toNat_of_nonneg a0,Int.toNat_of_nonneg b0]at this
 have hon:∀k:Int,0≤k→k < g'.length→∃i:Int,(0≤i∧i < g.length)∧k=rd p i:=fun k k0 k1=>by
  obtain⟨i,hi,e⟩:=hp.onto k0 (by omega)
  exact⟨(i:Int),by omega,e.symm⟩
 have hen:∀i:Int,0≤i→i < g.length→0≤rd p i∧rd p i < g.length:=fun i i0 i1=>by
  have:=hp.ent i.toNat (by omega)
  rwa[Int.toNat_of_nonneg i0]at this
 refine⟨by omega,by omega,fun a a0 a1 => ?_,fun a b a0 a1 b0 b1 => ?_,fun a a0 a1 => ?_,fun a a0 a1 => ?_,fun a b c a0 a1 b0 b1 c0 c1 => ?_,fun a a0 a1 => ?_⟩
 ·
  have:=hr a.toNat (by omega)
  rw[Int.toNat_of_nonneg a0]at this
  omega
 ·
  obtain⟨i,⟨i0,i1⟩,rfl⟩:=hon a a0 a1
  obtain⟨j,⟨j0,j1⟩,rfl⟩:=hon b b0 b1
  obtain⟨t0,t1⟩:=hg.ent i j i0 i1 j0 j1
  rw[hTi i j i0 i1 j0 j1,hl]
  exact hen _ t0 t1
 ·
  obtain⟨i,⟨i0,i1⟩,rfl⟩:=hon a a0 a1
  have:=hTi 0 i (by omega) (by omega) i0 i1
  rw[h0,hg.one i i0 i1]at this
  exact this
 ·
  obtain⟨i,⟨i0,i1⟩,rfl⟩:=hon a a0 a1
  have:=hTi i 0 i0 i1 (by omega) (by omega)
  rw[h0,hg.one' i i0 i1]at this
  exact this
 ·
  obtain⟨i,⟨i0,i1⟩,rfl⟩:=hon a a0 a1
  obtain⟨j,⟨j0,j1⟩,rfl⟩:=hon b b0 b1
  obtain⟨k,⟨k0,k1⟩,rfl⟩:=hon c c0 c1
  obtain⟨s0,s1⟩:=hg.ent i j i0 i1 j0 j1
  obtain⟨t0,t1⟩:=hg.ent j k j0 j1 k0 k1
  rw[hTi i j i0 i1 j0 j1,hTi _ k s0 s1 k0 k1,hTi j k j0 j1 k0 k1,hTi i _ i0 i1 t0 t1,hg.assoc i j k i0 i1 j0 j1 k0 k1]
 ·
  obtain⟨i,⟨i0,i1⟩,rfl⟩:=hon a a0 a1
  obtain⟨b,b0,b1,e⟩:=hg.inv i i0 i1
  refine⟨rd p b,(hen b b0 b1).1,by rw[hl];exact(hen b b0 b1).2,?_⟩
  rw[hTi i b i0 i1 b0 b1,e,h0]
end Go.Proofs.YthmcpmnhdbeahaaGreat.V
namespace Go.Proofs.YthmcpmnhdbeahaaGreat.V
open Go Go.RowKit Go.Proofs.YthmcpmnhdbeahaaGreat.D Go.Proofs.YthmcpmnhdbeahaaGreat.P
structure Src (c:List Int) (i:Int):Prop where
 ent:∀x∈c,0≤x∧x≤255
 len:c.length≤4096
 i0:0≤i
 i1:i≤c.length
theorem wrU {x:Int} (h0:0≤x) (h1:x < 18446744073709551616):wr .u64 x=x:=by
 show hid _=_
 rw[ZcE]
 simp[IntKind.wrap,IntKind.bits,IntKind.signed]
 omega
theorem andB (x:Int) {m:Int} (m0:0≤m) (hm:m < 18446744073709551616):∃o:Int,andI .u64 x m=o∧0≤o∧o≤m:=by
 obtain⟨M,rfl⟩:=Int.eq_ofNat_of_zero_le m0
 have hlt:(BitVec.ofInt 64 x &&& BitVec.ofInt 64 (M:Int)).toNat≤M:=by
  rw[BitVec.toNat_and]
  refine Nat.le_trans Nat.and_le_right ?_
  rw[BitVec.toNat_ofInt]
  omega
 refine⟨((BitVec.ofInt 64 x &&& BitVec.ofInt 64 (M:Int)).toNat:Nat),?_,by omega,by omega⟩
 show hid _=_
 rw[ZcE]
 show wr .u64 (((BitVec.ofInt 64 x &&& BitVec.ofInt 64 (M:Int)).toNat:Nat):Int)=_
 exact wrU (by omega) (by omega)
theorem From_ {c:List Int} (hc:∀x∈c,0≤x∧x≤255) (hl:c.length≤4096):∃h,ZaW.f c=some (c,0,h)∧Src c 0:=by
 have main:∀(n k:Nat) (h:Int),k+n=c.length→∃h', ZaW.l0 c (k:Int) c 0 h=some (c,0,h'):=by
  intro n
  induction n with
  | zero =>
   intro k h hk
   exact⟨h,by rw[ZaW.l0_eq,if_neg (by omega)]⟩
  | succ n ih =>
   intro k h hk
   obtain⟨h', e⟩:=ih (k+1) (wr .u64 ((wr .u64 ((wr .u64 (h*1099511628211))+(wr .u64 (rd c (k:Int)))))+197)) (by omega)
   refine⟨h', ?_⟩
   rw[ZaW.l0_eq,if_pos (by omega),if_pos (by omega),if_pos (by omega),if_pos (by omega),wn (j:=k) (by omega)]
   exact e
 obtain⟨h,e⟩:=main c.length 0 (wr .u64 (13631+(wr .u64 (c.length:Int)))) (by omega)
 exact⟨h,by rw[ZaW.f_eq];exact e,hc,hl,by omega,by omega⟩
theorem Next_ {c:List Int} {i:Int} (h:Src c i) (hh n:Int) (hn:n≤4611686018427387904):∃x j h', Zac.f c i hh n=some (x,c,j,h')∧Src c j∧0≤x∧(1≤n→x < n)∧(n < 1→x=0):=by
 have hl:=h.len
 rw[Zac.f_eq]
 by_cases h1:n < 1
 ·
  rw[if_pos h1]
  exact⟨0,i,hh,rfl,h,by omega,fun q=>by omega,fun _=>rfl⟩
 rw[if_neg h1]
 obtain⟨o,ho,o0,o1⟩:=andB (shrI .u64 (wr .u64 ((wr .u64 (hh*6364136223846793005))+1442695040888963407)) 33) (m:=16777215) (by omega) (by omega)
 rw[ho,w64 (x:=o) (by omega) (by omega)]
 by_cases h2:i < (c.length:Int)
 ·
  obtain⟨a0,a1⟩:=h.ent _ (ZcC h.i0 h2)
  have i0:=h.i0
  rw[if_pos h2,if_pos h.i0,if_pos h2,if_neg (by omega),w64 (x:=rd c i) (by omega) (by omega),w64 (x:=o+rd c i) (by omega) (by omega),w64 (x:=i+1) (by omega) (by omega),ZcD (show 0≤o+rd c i by omega)]
  exact⟨_,_,_,rfl,⟨h.ent,h.len,by omega,by omega⟩,Int.emod_nonneg _ (by omega),fun _=>Int.emod_lt_of_pos _ (by omega),fun q=>by omega⟩
 ·
  rw[if_neg h2,if_neg (by omega),ZcD o0]
  exact⟨_,_,_,rfl,h,Int.emod_nonneg _ (by omega),fun _=>Int.emod_lt_of_pos _ (by omega),fun q=>by omega⟩
theorem Pick_ {c:List Int} {i:Int} (h:Src c i) (hh:Int) (L:List Int) (h0:0 < L.length) (h1:L.length≤1000):∃x j h', Za2.f c i hh L=some (x,c,j,h')∧Src c j∧x∈L:=by
 obtain⟨x,j,h', e,s,x0,x1,_⟩:=Next_ h hh (L.length:Int) (by omega)
 have x1:=x1 (by omega)
 exact⟨rd L x,j,h', by rw[Za2.f_eq,e,Option.bind_some,if_pos x0,if_pos x1],s,ZcC x0 x1⟩
theorem Near_ {c:List Int} {i:Int} (h:Src c i) (hh most:Int) (m0 : -1000000≤most) (m1:most≤1000000):∃x j h', ZbF.f c i hh most=some (x,c,j,h')∧Src c j:=by
 obtain⟨x,j,h', e,s,x0,x1,_⟩:=Next_ h hh 14 (by omega)
 rw[ZbF.f_eq,e,Option.bind_some,w64 (x:=most+1) (by omega) (by omega)]
 by_cases q:x=0
 ·
  obtain⟨y,j', h2,e2,s2,_⟩:=Pick_ s h' [-1,most+1,1099511627776,-4611686018427387904] (by simp) (by simp)
  rw[if_pos q,e2]
  exact⟨y,j', h2,rfl,s2⟩
 ·
  obtain⟨y,j', h2,e2,s2,_⟩:=Next_ s h' (most+1) (by omega)
  rw[if_neg q,e2]
  exact⟨y,j', h2,rfl,s2⟩
structure OrdL (n:Nat) (p:List Int):Prop where
 len:p.length=n
 ent:∀x∈p,0≤x∧x < n
 nd:p.Nodup
theorem OrdL.ordr {n:Nat} {p:List Int} (h:OrdL n p):Ordr n p where
 len:=h.len
 ent:=fun i hi=>h.ent _ (ZcC (by omega) (by rw[h.len];omega))
 inj:=fun i j hi hj e=>by
  rw[rd_get (by rw[h.len];exact hi),rd_get (by rw[h.len];exact hj)]at e
  have hi' : i < p.length:=by rw[h.len];exact hi
  have hj' : j < p.length:=by rw[h.len];exact hj
  exact(List.getElem?_inj hi' h.nd).1 (by rw[List.getElem?_eq_getElem hi', List.getElem?_eq_getElem hj', e])
theorem Zm2 {c:List Int} {i:Int} (h:Src c i) (hh:Int) {n:Nat} (hn:n≤100):∃p j h', Zad.f c i hh (n:Int)=some (p,c,j,h')∧Src c j∧OrdL n p:=by
 have main:∀(m k:Nat) (p:List Int) (i hh:Int),k+m=n→Src c i→OrdL k p→∃p' j h', Zad.l0 (n:Int) p (k:Int) c i hh=some (p', c,j,h')∧Src c j∧OrdL n p' := by
  intro m
  induction m with
  | zero =>
   intro k p i hh hk hs hp
   exact⟨p,i,hh,by rw[Zad.l0_eq,if_neg (by omega)],hs,by rw[←show k=n by omega];exact hp⟩
  | succ m ih =>
   intro k p i hh hk hs hp
   have pl:=hp.len
   obtain⟨x,j,h', e,s,x0,x1,_⟩:=Next_ hs hh ((k:Int)+1) (by omega)
   have x1:=x1 (by omega)
   have ho:=Own_ (p.take x.toNat) (by rw[List.length_take];omega)
   have hperm:((p.take x.toNat++[(k:Int)])++p.drop x.toNat).Perm ((k:Int) :: p):=by
    have:=(List.perm_middle (a:=(k:Int)) (l₁ := p.take x.toNat) (l₂ := p.drop x.toNat))
    rw[List.take_append_drop]at this
    simpa using this
   have hp' : OrdL (k+1) ((p.take x.toNat++[(k:Int)])++p.drop x.toNat):=by
    refine⟨by rw[hperm.length_eq,List.length_cons,pl],fun y hy => ?_,hperm.nodup_iff.2 (List.nodup_cons.2 ⟨fun q => ?_,hp.nd⟩)⟩
    ·
     rcases List.mem_cons.1 (hperm.mem_iff.1 hy)with rfl|q
     ·
      omega
     ·
      have:=hp.ent y q;omega
    ·
     have:=hp.ent _ q;omega
   obtain⟨p', j', h2,e2,s2,o2⟩:=ih (k+1) _ j h' (by omega) s hp'
   refine⟨p', j', h2,?_,s2,o2⟩
   have tl:(p.take x.toNat).length≤k:=by rw[List.length_take];omega
   have dl:(p.drop x.toNat).length≤k:=by rw[List.length_drop];omega
   have l1:([(k:Int)]:List Int).length=1:=rfl
   rw[Zad.l0_eq,if_pos (by omega),w64 (x:=(k:Int)+1) (by omega) (by omega),e]
   dsimp only[Option.bind_some]
   rw[if_pos x0,if_pos (by omega),ho]
   dsimp only[Option.bind_some]
   rw[if_pos (by rw[l1];omega),if_pos x0,if_pos (by omega),if_pos (by rw[List.length_append,l1];omega)]
   exact e2
 obtain⟨p,j,h', e,s,o⟩:=main n 0 [] i hh (by omega) h ⟨rfl,fun x hx=>(by cases hx),List.nodup_nil⟩
 exact⟨p,j,h', by rw[Zad.f_eq];exact e,s,o⟩
theorem ZjP {c:List Int} {i:Int} (h:Src c i) (hh:Int) {n:Nat} (n1:1≤n) (hn:n≤100):∃p j h', ZZ.f c i hh (n:Int)=some (p,c,j,h')∧Src c j∧OrdL n p∧rd p 0=0:=by
 obtain⟨p,j,h', e,s,o⟩:=Zm2 h hh (n:=n - 1) (by omega)
 have pl:=o.len
 have hw:wrapI ((n:Int) - 1)=((n - 1:Nat):Int):=by rw[w64 (by omega) (by omega)];omega
 have main:=up p.length (fun k=>ZZ.l0 p (k:Int) c j h' (0 :: (p.take k).map (· + 1))) (fun k hk=>by
  have l1:(0 :: (p.take k).map (· + 1):List Int).length=k+1:=by rw[List.length_cons,List.length_map,List.length_take];omega
  have l2:∀x:Int,([x]:List Int).length=1:=fun _=>rfl
  obtain⟨a0,a1⟩:=o.ent _ (ZcC (xs:=p) (i:=(k:Int)) (by omega) (by omega))
  rw[ZcR hk,List.map_append,List.map_singleton,←List.cons_append,ZZ.l0_eq,w64 (x:=rd p (k:Int)+1) (by omega) (by omega),l1,l2,wn (j:=k) (by omega)]
  ((with_reducible repeat (first|refine Zq (by first|assumption|omega|rfl|exact B_pos (by omega)) ?_|refine Zp (by first|assumption|omega|decide|exact B_not (by omega)) ?_|refine Zk (by first|assumption) ?_|dsimp only));first|done|(with_reducible rfl)|simp (disch:=omega) only[w64]|(show False;done)))
 simp only[Int.natCast_zero,List.take_zero,List.map_nil,List.take_length]at main
 refine⟨0 :: p.map (· + 1),j,h', ?_,s,⟨by rw[List.length_cons,List.length_map];omega,fun x hx => ?_,List.nodup_cons.2 ⟨fun q => ?_,?_⟩⟩,rfl⟩
 ·
  rw[ZZ.f_eq,hw,e]
  show ZZ.l0 p 0 c j h' [0]=_
  rw[main,ZZ.l0_eq,if_neg (by omega)]
 ·
  rcases List.mem_cons.1 hx with rfl|q
  ·
   omega
  ·
   obtain⟨y,hy,rfl⟩:=List.mem_map.1 q
   have:=o.ent y hy
   omega
 ·
  obtain⟨y,hy,q⟩:=List.mem_map.1 q
  have:=o.ent y hy
  omega
 ·
  rw[List.Nodup,List.pairwise_map]
  exact List.Pairwise.imp (fun {a b} h q=>h (by omega)) o.nd
end Go.Proofs.YthmcpmnhdbeahaaGreat.V
namespace Go.Proofs.YthmcpmnhdbeahaaGreat.V
open Go Go.RowKit Go.Proofs.YthmcpmnhdbeahaaGreat.D Go.Proofs.YthmcpmnhdbeahaaGreat.P
def setsL {α : Type} (p:List Int) (v:Nat → α):Nat→List α → List α
 | 0,r=>r
 | k+1,r=>(setsL p v k r).set (rd p (k:Int)).toNat (v k)
theorem Zdf {α : Type} (p:List Int) (v:Nat → α) (r:List α):∀k,(setsL p v k r).length=r.length
 | 0=>rfl
 | k+1=>by rw[setsL,List.length_set,Zdf p v r k]
theorem Zgd {α : Type} {n:Nat} {p:List Int} (hp:Ordr n p) (v:Nat → α) {r:List α} (hr:r.length=n) {i:Nat} (hi:i < n):∀k,k≤n→(setsL p v k r)[(rd p (i:Int)).toNat]? = if i < k then some (v i)else r[(rd p (i:Int)).toNat]? := by
 intro k
 induction k with
 | zero=>intro _;rw[if_neg (by omega)];rfl
 | succ k ih =>
  intro hk
  have ih:=ih (by omega)
  obtain⟨a0,a1⟩:=hp.ent i hi
  obtain⟨b0,b1⟩:=hp.ent k (by omega)
  by_cases q:i=k
  ·
   subst q
   rw[if_pos (by omega),setsL,List.getElem?_set_self (by rw[Zdf];omega)]
  ·
   have hne:(rd p (k:Int)).toNat≠(rd p (i:Int)).toNat:=fun e=>q (hp.inj i k hi (by omega) (by omega))
   rw[setsL,List.getElem?_set_ne hne,ih]
   by_cases q2:i < k
   ·
    rw[if_pos q2,if_pos (by omega)]
   ·
    rw[if_neg q2,if_neg (by omega)]
theorem rd_get? {xs:List Int} {i:Nat} {x:Int} (h:xs[i]? = some x):rd xs (i:Int)=x:=by
 rw[Znk,List.getD_eq_getElem?_getD,h];rfl
theorem row_get? {g:List (List Int)} {i:Nat} {r:List Int} (h:g[i]? = some r):row g (i:Int)=r:=by
 simp[row,List.getD_eq_getElem?_getD,h]
def renR (g:List (List Int)) (p:List Int) (a:Nat):List Int:=setsL p (fun b=>rd p (T g (a:Int) (b:Int))) g.length (row g (rd p (a:Int)))
def ren (g:List (List Int)) (p:List Int):List (List Int):=setsL p (renR g p) g.length g
theorem ZmQ {g:List (List Int)} (hg:Grp g) {p:List Int} (hp:Ordr g.length p) (h0:rd p 0=0):Grp (ren g p):=by
 have hen:∀a:Nat,a < g.length→(row g (rd p (a:Int))).length=g.length:=fun a ha=>by
  obtain⟨a0,a1⟩:=hp.ent a ha
  have:=hg.row _ a0 a1
  omega
 have hrow:∀a:Nat,a < g.length→row (ren g p) (rd p (a:Int))=renR g p a:=fun a ha=>by
  obtain⟨a0,a1⟩:=hp.ent a ha
  have:=Zgd hp (renR g p) (r:=g) rfl ha g.length (Nat.le_refl _)
  rw[if_pos ha]at this
  have:=row_get? this
  rwa[Int.toNat_of_nonneg a0]at this
 refine Zkk hg hp h0 (Zdf ..) (fun a ha => ?_) fun a b ha hb => ?_
 ·
  obtain⟨i,hi,e⟩:=hp.onto (k:=(a:Int)) (by omega) (by omega)
  rw[←e,hrow i hi,renR,Zdf,hen i hi]
 ·
  obtain⟨b0,b1⟩:=hp.ent b hb
  have:=Zgd hp (fun b=>rd p (T g (a:Int) (b:Int))) (hen a ha) hb g.length (Nat.le_refl _)
  rw[if_pos hb]at this
  have:=rd_get? this
  rw[Int.toNat_of_nonneg b0]at this
  show rd (row (ren g p) _) _=_
  rw[hrow a ha]
  exact this
theorem Copy_ (g:List (List Int)) (hl:g.length≤1000000) (hr:∀r∈g,r.length≤1048576):ZaV.f g=some g:=by
 have l1:∀x:List Int,([x]:List (List Int)).length=1:=fun _=>rfl
 have main:=up g.length (fun k=>ZaV.l0 (k:Int) g (g.take k)) (fun k hk=>by
  have ho:=Own_ (row g (k:Int)) (hr _ (Zeq (by omega) (by omega)))
  have hlen:(g.take k).length=k:=by rw[List.length_take];omega
  have ht:g.take (k+1)=g.take k++[row g (k:Int)]:=by rw[List.take_succ_eq_append_getElem hk,ZdW hk]
  rw[ht,ZaV.l0_eq,ho,Option.bind_some,hlen,l1,wn (j:=k) (by omega)]
  ((with_reducible repeat (first|refine Zq (by first|assumption|omega|rfl|exact B_pos (by omega)) ?_|refine Zp (by first|assumption|omega|decide|exact B_not (by omega)) ?_|refine Zk (by first|assumption) ?_|dsimp only));first|done|(with_reducible rfl)|simp (disch:=omega) only[w64]|(show False;done)))
 simp only[Int.natCast_zero,List.take_zero,List.take_length]at main
 rw[ZaV.f_eq,main,ZaV.l0_eq,if_neg (by omega)]
theorem ZfS {g:List (List Int)} (hg:Grp g):∀r∈g,r.length≤8:=fun r hr=>by
 obtain⟨i,i0,i1,rfl⟩:=Zis hr
 have:=hg.row i i0 i1
 have:=hg.n8
 omega
theorem Zh9 {g:List (List Int)} (hg:Grp g) {p:List Int} (hp:Ordr g.length p):ZE.f g p=some (ren g p):=by
 have n8:=hg.n8
 have pl:=hp.len
 have hc:=Copy_ g (by omega) (fun r hr=>by have:=ZfS hg r hr;omega)
 have main:=up g.length (fun a=>ZE.l0 p (a:Int) g (setsL p (renR g p) a g)) (fun a ha=>by
  obtain⟨pa0,pa1⟩:=hp.ent a ha
  have gl:(setsL p (renR g p) a g).length=g.length:=Zdf ..
  have hrow:row (setsL p (renR g p) a g) (rd p (a:Int))=row g (rd p (a:Int)):=by
   have h1:=Zgd hp (renR g p) (r:=g) rfl ha a (by omega)
   rw[if_neg (by omega)]at h1
   obtain⟨q,hq⟩:=Int.eq_ofNat_of_zero_le pa0
   rw[hq]at h1 ⊢
   have hq' : q < g.length:=by omega
   rw[Int.toNat_natCast,List.getElem?_eq_getElem hq']at h1
   rw[row_get? h1,ZdW hq']
  have rl:=hg.row _ pa0 (by omega)
  have ra:=hg.row (a:Int) (by omega) (by omega)
  have inner:=up g.length (fun b=>ZE.l1 p (a:Int) (b:Int) g (setsL p (fun b=>rd p (T g (a:Int) (b:Int))) b (row g (rd p (a:Int)))) (setsL p (renR g p) a g) (rd p (a:Int))) (fun b hb=>by
   obtain⟨pb0,pb1⟩:=hp.ent b hb
   obtain⟨t0,t1⟩:=hg.ent (a:Int) (b:Int) (by omega) (by omega) (by omega) (by omega)
   have sl:(setsL p (fun b=>rd p (T g (a:Int) (b:Int))) b (row g (rd p (a:Int)))).length=(row g (rd p (a:Int))).length:=Zdf ..
   show ZE.l1 p (a:Int) (b:Int) g _ _ _=ZE.l1 p (a:Int) ((b+1:Nat):Int) g ((setsL p (fun b=>rd p (T g (a:Int) (b:Int))) b (row g (rd p (a:Int)))).set (rd p (b:Int)).toNat (rd p (T g (a:Int) (b:Int)))) _ _
   rw[ZE.l1_eq,Zao.f_eq,Option.bind_some,sl,wn (j:=b) (by omega)]
   ((with_reducible repeat (first|refine Zq (by first|assumption|omega|rfl|exact B_pos (by omega)) ?_|refine Zp (by first|assumption|omega|decide|exact B_not (by omega)) ?_|refine Zk (by first|assumption) ?_|dsimp only));first|done|(with_reducible rfl)|simp (disch:=omega) only[w64]|(show False;done)))
  simp only[Int.natCast_zero,setsL]at inner
  rw[ZE.l0_eq,Zao.f_eq,Option.bind_some,gl,hrow,inner,ZE.l1_eq,Zao.f_eq,Option.bind_some,wn (j:=a) (by omega)]
  (with_reducible repeat (first|refine Zq (by first|assumption|omega|rfl|exact B_pos (by omega)) ?_|refine Zp (by first|assumption|omega|decide|exact B_not (by omega)) ?_|refine Zk (by first|assumption) ?_|dsimp only))
  rfl)
 simp only[Int.natCast_zero,setsL]at main
 rw[ZE.f_eq,hc,Option.bind_some,main,ZE.l0_eq,Zao.f_eq,Option.bind_some,if_neg (by omega)]
 rfl
theorem bld {α : Type} (f:Nat → α) (k:Nat):(List.range (k+1)).map f=(List.range k).map f++[f k]:=by rw[List.range_succ,List.map_append,List.map_singleton]
theorem ZgH {n:Nat} (n1:1≤n) (n8:n≤8):Z6.f (n:Int)=some (cyc n):=by
 have l1:∀x:Int,([x]:List Int).length=1:=fun _=>rfl
 have l2:∀x:List Int,([x]:List (List Int)).length=1:=fun _=>rfl
 have main:=up n (fun a=>Z6.l0 (n:Int) (a:Int) ((List.range a).map fun a:Nat=>(List.range n).map fun b:Nat=>((a:Int)+(b:Int))%(n:Int))) (fun a ha=>by
  have inner:=up n (fun b=>Z6.l1 (n:Int) (a:Int) (b:Int) ((List.range b).map fun b:Nat=>((a:Int)+(b:Int))%(n:Int)) ((List.range a).map fun a:Nat=>(List.range n).map fun b:Nat=>((a:Int)+(b:Int))%(n:Int))) (fun b hb=>by
   have e:((List.range b).map fun b:Nat=>((a:Int)+(b:Int))%(n:Int)).length=b:=by simp
   rw[bld,Z6.l1_eq,e,l1,w64 (x:=(a:Int)+(b:Int)) (by omega) (by omega),ZcD (show 0≤(a:Int)+(b:Int)by omega),wn (j:=b) (by omega)]
   ((with_reducible repeat (first|refine Zq (by first|assumption|omega|rfl|exact B_pos (by omega)) ?_|refine Zp (by first|assumption|omega|decide|exact B_not (by omega)) ?_|refine Zk (by first|assumption) ?_|dsimp only));first|done|(with_reducible rfl)|simp (disch:=omega) only[w64]|(show False;done)))
  simp only[Int.natCast_zero,List.range_zero,List.map_nil]at inner
  have e:((List.range a).map fun a:Nat=>(List.range n).map fun b:Nat=>((a:Int)+(b:Int))%(n:Int)).length=a:=by simp
  rw[bld,Z6.l0_eq,if_pos (by omega),inner,Z6.l1_eq,e,l2,wn (j:=a) (by omega)]
  ((with_reducible repeat (first|refine Zq (by first|assumption|omega|rfl|exact B_pos (by omega)) ?_|refine Zp (by first|assumption|omega|decide|exact B_not (by omega)) ?_|refine Zk (by first|assumption) ?_|dsimp only));first|done|(with_reducible rfl)|simp (disch:=omega) only[w64]|(show False;done)))
 simp only[Int.natCast_zero,List.range_zero,List.map_nil]at main
 rw[Z6.f_eq,main,Z6.l0_eq,if_neg (by omega)]
 rfl
theorem ZgJ {g h:List (List Int)} (hg:Grp g) (hh:Grp h):ZX.f g h=some (prd g h):=by
 have l1:∀x:Int,([x]:List Int).length=1:=fun _=>rfl
 have l2:∀x:List Int,([x]:List (List Int)).length=1:=fun _=>rfl
 have g8:=hg.n8;have h8:=hh.n8;have h1:=hh.n1
 obtain⟨N,hN⟩:∃N,N=g.length*h.length:=⟨_,rfl⟩
 have N64:N≤64:=by rw[hN];exact Nat.mul_le_mul g8 h8
 have hw:wrapI ((g.length:Int)*(h.length:Int))=(N:Int):=by rw[hN,Int.natCast_mul,w64] <;> rw[←Int.natCast_mul,←hN] <;> omega
 have parts:∀x:Nat,x < N→(0≤(x:Int) / (h.length:Int)∧(x:Int) / (h.length:Int) < g.length)∧0≤(x:Int)%(h.length:Int)∧(x:Int)%(h.length:Int) < h.length∧wrapI ((x:Int).tdiv (h.length:Int))=(x:Int) / (h.length:Int)∧(x:Int).tmod (h.length:Int)=(x:Int)%(h.length:Int):=fun x hx=>by
  have e1:(x:Int) / (h.length:Int) < g.length:=Int.ediv_lt_of_lt_mul (by omega) (by rw[←Int.natCast_mul,←hN];omega)
  have e0:0≤(x:Int) / (h.length:Int):=Int.ediv_nonneg (by omega) (by omega)
  exact⟨⟨e0,e1⟩,Int.emod_nonneg _ (by omega),Int.emod_lt_of_pos _ (by omega),by rw[Zhm (by omega),w64 (by omega) (by omega)],ZcD (by omega)⟩
 have main:=up N (fun a=>ZX.l0 (h.length:Int) (a:Int) g h ((List.range a).map fun x:Nat=>(List.range N).map fun y:Nat=>(h.length:Int)*T g ((x:Int) / (h.length:Int)) ((y:Int) / (h.length:Int))+T h ((x:Int)%(h.length:Int)) ((y:Int)%(h.length:Int)))) (fun a ha=>by
  obtain⟨⟨a0,a1⟩,a2,a3,a4,a5⟩:=parts a ha
  have ra:=hg.row _ a0 a1
  have rb:=hh.row _ a2 a3
  have inner:=up N (fun b=>ZX.l1 (h.length:Int) (a:Int) (b:Int) g h ((List.range b).map fun y:Nat=>(h.length:Int)*T g ((a:Int) / (h.length:Int)) ((y:Int) / (h.length:Int))+T h ((a:Int)%(h.length:Int)) ((y:Int)%(h.length:Int))) ((List.range a).map fun x:Nat=>(List.range N).map fun y:Nat=>(h.length:Int)*T g ((x:Int) / (h.length:Int)) ((y:Int) / (h.length:Int))+T h ((x:Int)%(h.length:Int)) ((y:Int)%(h.length:Int)))) (fun b hb=>by
   obtain⟨⟨b0,b1⟩,b2,b3,b4,b5⟩:=parts b hb
   obtain⟨t0,t1⟩:=hg.ent _ _ a0 a1 b0 b1
   obtain⟨s0,s1⟩:=hh.ent _ _ a2 a3 b2 b3
   have e:((List.range b).map fun y:Nat=>(h.length:Int)*T g ((a:Int) / (h.length:Int)) ((y:Int) / (h.length:Int))+T h ((a:Int)%(h.length:Int)) ((y:Int)%(h.length:Int))).length=b:=by simp
   have p0:0≤(h.length:Int)*T g ((a:Int) / (h.length:Int)) ((b:Int) / (h.length:Int)):=Int.mul_nonneg (by omega) t0
   have p1:(h.length:Int)*T g ((a:Int) / (h.length:Int)) ((b:Int) / (h.length:Int))≤8*8:=Int.mul_le_mul (by omega) (by omega) t0 (by omega)
   rw[bld,ZX.l1_eq,Zao.f_eq,Option.bind_some,hw,e,l1,a4,a5,b4,b5,wn (j:=b) (by omega),w64 (x:=(h.length:Int)*T g ((a:Int) / (h.length:Int)) ((b:Int) / (h.length:Int))) (by omega) (by omega),w64 (x:=(h.length:Int)*T g ((a:Int) / (h.length:Int)) ((b:Int) / (h.length:Int))+T h ((a:Int)%(h.length:Int)) ((b:Int)%(h.length:Int))) (by omega) (by omega)]
   clear a4 b4 a5 b5 hw
   ((with_reducible repeat (first|refine Zq (by first|assumption|omega|rfl|exact B_pos (by omega)) ?_|refine Zp (by first|assumption|omega|decide|exact B_not (by omega)) ?_|refine Zk (by first|assumption) ?_|dsimp only));first|done|(with_reducible rfl)|simp (disch:=omega) only[w64]|(show False;done)))
  simp only[Int.natCast_zero,List.range_zero,List.map_nil]at inner
  have e:((List.range a).map fun x:Nat=>(List.range N).map fun y:Nat=>(h.length:Int)*T g ((x:Int) / (h.length:Int)) ((y:Int) / (h.length:Int))+T h ((x:Int)%(h.length:Int)) ((y:Int)%(h.length:Int))).length=a:=by simp
  rw[bld,ZX.l0_eq,Zao.f_eq,Option.bind_some,hw,if_pos (by omega),inner,ZX.l1_eq,Zao.f_eq,Option.bind_some,hw,e,l2,wn (j:=a) (by omega)]
  clear a4 a5 hw
  ((with_reducible repeat (first|refine Zq (by first|assumption|omega|rfl|exact B_pos (by omega)) ?_|refine Zp (by first|assumption|omega|decide|exact B_not (by omega)) ?_|refine Zk (by first|assumption) ?_|dsimp only));first|done|(with_reducible rfl)|simp (disch:=omega) only[w64]|(show False;done)))
 simp only[Int.natCast_zero,List.range_zero,List.map_nil]at main
 rw[ZX.f_eq,Zao.f_eq,Option.bind_some,main,ZX.l0_eq,Zao.f_eq,Option.bind_some,hw,if_neg (by omega),hN]
 rfl
theorem ZgK {n:Nat} (n1:1≤n) (n8:n≤8) {more:Int} (m0:0≤more) (m8:more≤8):ZL.f (n:Int) more=some (twd n more):=by
 have l1:∀x:Int,([x]:List Int).length=1:=fun _=>rfl
 have l2:∀x:List Int,([x]:List (List Int)).length=1:=fun _=>rfl
 have hw:wrapI (2*(n:Int))=((2*n:Nat):Int):=by rw[w64 (by omega) (by omega)];omega
 obtain⟨F,hF⟩:∃F:Nat→Nat→Int,F=fun(a b:Nat)=>(n:Int)*(((a:Int) / n+(b:Int) / n)%2)+((if(b:Int) / n=1 then(b:Int)%n - (a:Int)%n else(a:Int)%n+(b:Int)%n)+more*((a:Int) / n)*((b:Int) / n))%(n:Int):=⟨_,rfl⟩
 have parts:∀x:Nat,x < 2*n→(0≤(x:Int) / (n:Int)∧(x:Int) / (n:Int)≤1)∧0≤(x:Int)%(n:Int)∧(x:Int)%(n:Int) < n∧wrapI ((x:Int).tdiv (n:Int))=(x:Int) / (n:Int)∧(x:Int).tmod (n:Int)=(x:Int)%(n:Int):=fun x hx=>by
  have e1:(x:Int) / (n:Int) < 2:=Int.ediv_lt_of_lt_mul (by omega) (by omega)
  have e0:0≤(x:Int) / (n:Int):=Int.ediv_nonneg (by omega) (by omega)
  exact⟨⟨e0,by omega⟩,Int.emod_nonneg _ (by omega),Int.emod_lt_of_pos _ (by omega),by rw[Zhm (by omega),w64 (by omega) (by omega)],ZcD (by omega)⟩
 have cell:∀(a b:Nat),a < 2*n→b < 2*n→∀(r2:List Int) (r3:List (List Int)),r2.length=b→ZL.l1 (n:Int) more (a:Int) (b:Int) r2 r3=ZL.l1 (n:Int) more (a:Int) ((b+1:Nat):Int) (r2++[F a b]) r3:=fun a b ha hb r2 r3 hr=>by
  obtain⟨⟨a0,a1⟩,a2,a3,a4,a5⟩:=parts a ha
  obtain⟨⟨b0,b1⟩,b2,b3,b4,b5⟩:=parts b hb
  have hFab:F a b=(n:Int)*(((a:Int) / n+(b:Int) / n)%2)+((if(b:Int) / n=1 then(b:Int)%n - (a:Int)%n else(a:Int)%n+(b:Int)%n)+more*((a:Int) / n)*((b:Int) / n))%(n:Int):=by rw[hF]
  rw[hFab,ZL.l1_eq,hw,a4,b4,a5,b5,hr,wn (j:=b) (by omega)]
  clear a4 b4 a5 b5 hw hFab
  generalize (a:Int) / (n:Int)=A at *
  generalize (b:Int) / (n:Int)=B at *
  generalize (a:Int)%(n:Int)=y at *
  generalize (b:Int)%(n:Int)=w at *
  have p0:0≤more*A:=Int.mul_nonneg m0 a0
  have p1:more*A≤8*1:=Int.mul_le_mul m8 a1 a0 (by omega)
  have q0:0≤more*A*B:=Int.mul_nonneg p0 b0
  have q1:more*A*B≤8*1:=Int.mul_le_mul (by omega) b1 b0 (by omega)
  have r0:=Int.emod_nonneg (A+B) (show(2:Int)≠0 by omega)
  have r1:=Int.emod_lt_of_pos (A+B) (show(0:Int) < 2 by omega)
  have s0:0≤(n:Int)*((A+B)%2):=Int.mul_nonneg (by omega) r0
  have s1:(n:Int)*((A+B)%2)≤8*1:=Int.mul_le_mul (by omega) (by omega) r0 (by omega)
  rw[w64 (x:=more*A) (by omega) (by omega),w64 (x:=more*A*B) (by omega) (by omega),w64 (x:=A+B) (by omega) (by omega),ZcD (show 0≤A+B by omega),w64 (x:=(n:Int)*((A+B)%2)) (by omega) (by omega),w64 (x:=w - y) (by omega) (by omega),w64 (x:=y+w) (by omega) (by omega),w64 (x:=w - y+more*A*B) (by omega) (by omega),w64 (x:=y+w+more*A*B) (by omega) (by omega)]
  have hn:¬ (n:Int)=0:=by omega
  rw[if_pos (by omega),if_neg hn,if_neg hn,if_neg hn,if_neg hn]
  by_cases hB:B=1
  ·
   have u0:=Int.emod_nonneg (w - y+more*A*B) hn
   have u1:=Int.emod_lt_of_pos (w - y+more*A*B) (show(0:Int) < n by omega)
   rw[if_pos hB,if_pos hB,Mod_ (by omega) (by omega) (by omega) (by omega),Option.bind_some,if_pos (by rw[l1];omega),w64 (x:=(n:Int)*((A+B)%2)+(w - y+more*A*B)%(n:Int)) (by omega) (by omega)]
  ·
   have u0:=Int.emod_nonneg (y+w+more*A*B) hn
   have u1:=Int.emod_lt_of_pos (y+w+more*A*B) (show(0:Int) < n by omega)
   rw[if_neg hB,if_neg hB,Mod_ (by omega) (by omega) (by omega) (by omega),Option.bind_some,if_pos (by rw[l1];omega),w64 (x:=(n:Int)*((A+B)%2)+(y+w+more*A*B)%(n:Int)) (by omega) (by omega)]
 have main:=up (2*n) (fun a=>ZL.l0 (n:Int) more (a:Int) ((List.range a).map fun a:Nat=>(List.range (2*n)).map fun b:Nat=>F a b)) (fun a ha=>by
  have inner:=up (2*n) (fun b=>ZL.l1 (n:Int) more (a:Int) (b:Int) ((List.range b).map fun b:Nat=>F a b) ((List.range a).map fun a:Nat=>(List.range (2*n)).map fun b:Nat=>F a b)) (fun b hb=>by
   rw[bld]
   exact cell a b ha hb _ _ (by simp))
  simp only[Int.natCast_zero,List.range_zero,List.map_nil]at inner
  have e:((List.range a).map fun a:Nat=>(List.range (2*n)).map fun b:Nat=>F a b).length=a:=by simp
  rw[bld,ZL.l0_eq,hw,if_pos (by omega),inner,ZL.l1_eq,hw,e,l2,wn (j:=a) (by omega),if_neg (by omega),if_pos (by omega)])
 simp only[Int.natCast_zero,List.range_zero,List.map_nil]at main
 rw[ZL.f_eq,main,ZL.l0_eq,hw,if_neg (by omega),hF]
 rfl
theorem wrB {x:Int} (h0:0≤x) (h1:x < 256):wr .u8 x=x:=by
 show hid _=_
 rw[ZcE]
 simp[IntKind.wrap,IntKind.bits,IntKind.signed]
 omega
theorem Zmq {d:Nat} (d1:1≤d) (d8:d≤8) {s:ByteArray} (h1:¬ s=⟨#[107,108,101,105,110]⟩) (h2:¬ s=⟨#[99,117,98,101]⟩) (h3:¬ s=⟨#[99,50,99,52]⟩) (h4:¬ s=⟨#[115,51]⟩) (h5:¬ s=⟨#[100,105,104,101,100,114,97,108]⟩) (h6:¬ s=⟨#[113,117,97,116,101,114,110,105,111,110]⟩) (hs:s.size=2) (b0:Zea s 0=99) (b1:Zea s 1=48+(d:Int)):ZaQ.f s=some (cyc d,true):=by
 have c2:=ZgH (n:=2) (by omega) (by omega)
 have c2:Z6.f 2=some (cyc 2):=c2
 have cd:=ZgH (n:=d) d1 d8
 rw[ZaQ.f_eq,c2,Option.bind_some,if_neg h1,if_neg h2,if_neg h3,if_neg h4,if_neg h5,if_neg h6,b0,b1,if_pos (by omega),if_pos (by omega),if_pos rfl,if_pos (by omega),if_pos (by omega),if_pos (by omega),if_pos (by omega),if_pos (by omega),wrB (by omega) (by omega),w64 (by omega) (by omega),show 48+(d:Int) - 48=(d:Int)by omega,cd,Option.bind_some]
def nmL:List ByteArray:=[⟨#[99,49]⟩,⟨#[99,50]⟩,⟨#[99,51]⟩,⟨#[99,52]⟩,⟨#[99,53]⟩,⟨#[99,54]⟩,⟨#[99,55]⟩,⟨#[99,56]⟩,⟨#[107,108,101,105,110]⟩,⟨#[115,51]⟩,⟨#[99,50,99,52]⟩,⟨#[99,117,98,101]⟩,⟨#[100,105,104,101,100,114,97,108]⟩,⟨#[113,117,97,116,101,114,110,105,111,110]⟩]
theorem Zm1 {i:Int} (i0:0≤i) (i1:i < 14):∃G,ZaQ.f (Ty.rd .str nmL i)=some (G,true)∧Grp G:=by
 have c2:=ZgH (n:=2) (by omega) (by omega)
 have c2:Z6.f 2=some (cyc 2):=c2
 have c4:=ZgH (n:=4) (by omega) (by omega)
 have c4:Z6.f 4=some (cyc 4):=c4
 have t3:ZL.f 3 0=some (twd 3 0):=ZgK (n:=3) (by omega) (by omega) (by omega) (by omega)
 have t4:ZL.f 4 0=some (twd 4 0):=ZgK (n:=4) (by omega) (by omega) (by omega) (by omega)
 have t5:ZL.f 4 2=some (twd 4 2):=ZgK (n:=4) (by omega) (by omega) (by omega) (by omega)
 obtain⟨g1,g2,g3,g4,g5,g6⟩:=Zky
 have g2' := Zdn (Zii 2 (by omega) (by omega))
 have g4' := Zdn (Zii 4 (by omega) (by omega))
 have g22:=Zdn g1
 have p1:=ZgJ g2' g2'
 have p2:=ZgJ g2' g22
 have p3:=ZgJ g2' g4'
 have cyc' : ∀d:Nat,1≤d→d≤8→Ty.rd .str nmL ((d:Int) - 1)=⟨#[99,UInt8.ofNat (48+d)]⟩→∃G,ZaQ.f (Ty.rd .str nmL ((d:Int) - 1))=some (G,true)∧Grp G:=fun d d1 d8 e=>by
  rw[e]
  refine⟨cyc d,?_,Zdn (Zii d d8 d1)⟩
  have hd:d=1∨d=2∨d=3∨d=4∨d=5∨d=6∨d=7∨d=8:=by omega
  rcases hd with rfl|rfl|rfl|rfl|rfl|rfl|rfl|rfl <;> exact Zmq (by omega) (by omega) (by decide) (by decide) (by decide) (by decide) (by decide) (by decide) rfl rfl rfl
 have hi:i=0∨i=1∨i=2∨i=3∨i=4∨i=5∨i=6∨i=7∨i=8∨i=9∨i=10∨i=11∨i=12∨i=13:=by omega
 rcases hi with rfl|rfl|rfl|rfl|rfl|rfl|rfl|rfl|rfl|rfl|rfl|rfl|rfl|rfl
 ·
  exact cyc' 1 (by omega) (by omega) rfl
 ·
  exact cyc' 2 (by omega) (by omega) rfl
 ·
  exact cyc' 3 (by omega) (by omega) rfl
 ·
  exact cyc' 4 (by omega) (by omega) rfl
 ·
  exact cyc' 5 (by omega) (by omega) rfl
 ·
  exact cyc' 6 (by omega) (by omega) rfl
 ·
  exact cyc' 7 (by omega) (by omega) rfl
 ·
  exact cyc' 8 (by omega) (by omega) rfl
 ·
  refine⟨_,?_,g22⟩
  show ZaQ.f ⟨#[107,108,101,105,110]⟩=_
  rw[ZaQ.f_eq,c2,Option.bind_some,if_pos rfl,p1,Option.bind_some]
 ·
  refine⟨_,?_,Zdn g4⟩
  show ZaQ.f ⟨#[115,51]⟩=_
  rw[ZaQ.f_eq,c2,Option.bind_some,if_neg (by decide),if_neg (by decide),if_neg (by decide),if_pos rfl,t3,Option.bind_some]
 ·
  refine⟨_,?_,Zdn g3⟩
  show ZaQ.f ⟨#[99,50,99,52]⟩=_
  rw[ZaQ.f_eq,c2,Option.bind_some,if_neg (by decide),if_neg (by decide),if_pos rfl,c4,Option.bind_some,p3,Option.bind_some]
 ·
  refine⟨_,?_,Zdn g2⟩
  show ZaQ.f ⟨#[99,117,98,101]⟩=_
  rw[ZaQ.f_eq,c2,Option.bind_some,if_neg (by decide),if_pos rfl,p1,Option.bind_some,p2,Option.bind_some]
 ·
  refine⟨_,?_,Zdn g5⟩
  show ZaQ.f ⟨#[100,105,104,101,100,114,97,108]⟩=_
  rw[ZaQ.f_eq,c2,Option.bind_some,if_neg (by decide),if_neg (by decide),if_neg (by decide),if_neg (by decide),if_pos rfl,t4,Option.bind_some]
 ·
  refine⟨_,?_,Zdn g6⟩
  show ZaQ.f ⟨#[113,117,97,116,101,114,110,105,111,110]⟩=_
  rw[ZaQ.f_eq,c2,Option.bind_some,if_neg (by decide),if_neg (by decide),if_neg (by decide),if_neg (by decide),if_neg (by decide),if_pos rfl,t5,Option.bind_some]
theorem Draw_ {c:List Int} {i:Int} (h:Src c i) (hh:Int):∃G j h', ZbC.f c i hh=some (G,c,j,h')∧Src c j∧Grp G:=by
 obtain⟨x,j,h', e,s,x0,x1,_⟩:=Next_ h hh 14 (by omega)
 have x1:=x1 (by omega)
 obtain⟨G,hG,hgr⟩:=Zm1 x0 x1
 obtain⟨y,j2,h2,e2,s2,y0,y1,_⟩:=Next_ s h' 2 (by omega)
 have hN:Zbz.f=some nmL:=Zbz.f_eq
 have hl:((nmL.length:Nat):Int)=14:=rfl
 by_cases q:y=0
 ·
  refine⟨G,j2,h2,?_,s2,hgr⟩
  rw[ZbC.f_eq,hN,Option.bind_some,hl,e]
  dsimp only[Option.bind_some]
  rw[if_pos x0,if_pos x1,if_pos x0,if_pos x1,hG]
  dsimp only[Option.bind_some]
  rw[e2]
  dsimp only[Option.bind_some]
  rw[if_pos q]
 ·
  obtain⟨p,j3,h3,e3,s3,o,p0⟩:=ZjP s2 h2 (n:=G.length) hgr.n1 (by have:=hgr.n8;omega)
  have hr:=Zh9 hgr o.ordr
  refine⟨ren G p,j3,h3,?_,s3,ZmQ hgr o.ordr p0⟩
  rw[ZbC.f_eq,hN,Option.bind_some,hl,e]
  dsimp only[Option.bind_some]
  rw[if_pos x0,if_pos x1,if_pos x0,if_pos x1,hG]
  dsimp only[Option.bind_some]
  rw[e2]
  dsimp only[Option.bind_some]
  rw[if_neg q,Zao.f_eq,Option.bind_some,e3]
  dsimp only[Option.bind_some]
  rw[hr]
  rfl
end Go.Proofs.YthmcpmnhdbeahaaGreat.V
namespace Go.Proofs.YthmcpmnhdbeahaaGreat.V
open Go Go.RowKit Go.Proofs.YthmcpmnhdbeahaaGreat.D Go.Proofs.YthmcpmnhdbeahaaGreat.P
def GoP (g:List (List Int)) (m:Int) (us:List Int):Prop:=∀x:Int,0≤x→x < us.length→∀y:Int,0≤y→y < us.length→T g x y < us.length→rd us (T g x y)=rd us x*rd us y%m
theorem Zmo {g:List (List Int)} (hg:Grp g) {m:Int} (m2:2≤m) (m12:m≤12) (k:Nat) {us:List Int} (hu:∀x∈us,1≤x∧x < m∧Int.gcd x m=1) (hl:us.length≤g.length) (out:List (Int×List Int)) :
  ZV.l0 k m us (us.length:Int) 0 out g=ite_ (GoP g m us) (ZV.l0 k m us (us.length:Int) (us.length:Int) out g) (some out):=by
 have n8:=hg.n8
 have outer:=scan us.length (fun x=>ZV.l0 k m us (us.length:Int) x out g) (fun x=>∀y:Int,0≤y→y < us.length→T g x y < us.length→rd us (T g x y)=rd us x*rd us y%m) (some out) (fun x x0 x1 _=>by
  have rx:=hg.row x x0 (by omega)
  have inner:=scanI us.length (fun y=>ZV.l1 k m us (us.length:Int) x y out g) (fun y=>T g x y < us.length→rd us (T g x y)=rd us x*rd us y%m) (some out) (ZV.l0 k m us (us.length:Int) (x+1) out g) (fun y y0 y1 _=>by
   obtain⟨t0,t1⟩:=hg.ent x y x0 (by omega) y0 (by omega)
   obtain⟨a0,a1,_⟩:=hu _ (ZcC x0 x1)
   obtain⟨b0,b1,_⟩:=hu _ (ZcC y0 y1)
   obtain⟨p0,p1⟩:=Zc6 (a:=rd us x) (b:=rd us y) (m:=1000) (by omega) (by omega) (by omega) (by omega) (by omega)
   refine⟨fun h => ?_,fun h => ?_⟩
   ·
    by_cases ht:T g x y < us.length
    ·
     have h:=h ht
     rw[ZV.l1_eq,w64 (x:=y+1) (by omega) (by omega),w64 (x:=rd us x*rd us y) (by omega) (by omega),ZcD p0]
     (with_reducible repeat (first|refine Zq (by first|assumption|omega|rfl|exact B_pos (by omega)) ?_|refine Zp (by first|assumption|omega|decide|exact B_not (by omega)) ?_|refine Zk (by first|assumption) ?_|dsimp only))
    ·
     rw[ZV.l1_eq,w64 (x:=y+1) (by omega) (by omega)]
     (with_reducible repeat (first|refine Zq (by first|assumption|omega|rfl|exact B_pos (by omega)) ?_|refine Zp (by first|assumption|omega|decide|exact B_not (by omega)) ?_|refine Zk (by first|assumption) ?_|dsimp only))
   ·
    have ht:T g x y < us.length:=by
     by_cases q:T g x y < us.length
     ·
      exact q
     ·
      exact absurd (fun k=>absurd k q) h
    have h:¬ rd us (T g x y)=rd us x*rd us y%m:=fun k=>h fun _=>k
    rw[ZV.l1_eq,w64 (x:=rd us x*rd us y) (by omega) (by omega),ZcD p0]
    (with_reducible repeat (first|refine Zq (by first|assumption|omega|rfl|exact B_pos (by omega)) ?_|refine Zp (by first|assumption|omega|decide|exact B_not (by omega)) ?_|refine Zk (by first|assumption) ?_|dsimp only))) (fun _=>by
     rw[ZV.l1_eq,w64 (x:=x+1) (by omega) (by omega)]
     (with_reducible repeat (first|refine Zq (by first|assumption|omega|rfl|exact B_pos (by omega)) ?_|refine Zp (by first|assumption|omega|decide|exact B_not (by omega)) ?_|refine Zk (by first|assumption) ?_|dsimp only)))
  refine⟨fun h => ?_,fun h => ?_⟩ <;> rw[ZV.l0_eq,if_pos (by omega)]
  ·
   exact inner.1 h
  ·
   exact inner.2 h)
 rcases outer with ⟨h1,h2⟩|⟨j,j0,j1,_,h1,_,h2⟩
 ·
  rw[ZbU (show GoP g m us from h1),h2]
 ·
  rw[ZbW (show ¬ GoP g m us from fun q=>h1 (q j j0 j1))]
  exact h2
theorem pow12 {a b:Nat} (h:a=b+1):(12:Nat) ^ a=12*12 ^ b:=by rw[h,Nat.pow_succ,Nat.mul_comm]
theorem Go_ {g:List (List Int)} (hg:Grp g) {m:Int} (m2:2≤m) (m12:m≤12):∀(k:Nat) (us:List Int) (out:List (Int×List Int)),(∀x∈us,1≤x∧x < m∧Int.gcd x m=1)→us.length≤g.length→g.length < us.length+k→out.length+12 ^ (g.length - us.length)≤1000000000 →
  ∃O,ZV.f k g m us out=some (out++O)∧(∀p∈O,p.1=m∧Mdl g m p.2)∧O.length≤12 ^ (g.length - us.length)∧((∀x∈us,x=1)→O≠[]):=by
 have n8:=hg.n8
 intro k
 induction k with
 | zero=>intro us out _ hl hk _;omega
 | succ k ih =>
  intro us out hu hl hk hb
  have ht:=Zmo hg m2 m12 k hu hl out
  rw[ZV.f_eq,ht]
  by_cases hG:GoP g m us
  rotate_left
  ·
   rw[ZbW hG]
   refine⟨[],by rw[List.append_nil],by simp,Nat.zero_le _,fun h=>absurd (fun x x0 x1 y y0 y1 ht => ?_) hG⟩
   obtain⟨t0,_⟩:=hg.ent x y x0 (by omega) y0 (by omega)
   rw[h _ (ZcC x0 x1),h _ (ZcC y0 y1),h _ (ZcC t0 ht),Int.mul_one,Int.emod_eq_of_lt (by omega) (by omega)]
  rw[ZbU hG,ZV.l0_eq,if_neg (by omega)]
  by_cases hN:(us.length:Int)=(g.length:Int)
  ·
   rw[if_pos hN,Own_ us (by omega),Option.bind_some]
   have l1:([(m,us)]:List (Int×List Int)).length=1:=rfl
   have hp1:1≤12 ^ (g.length - us.length):=Nat.one_le_pow _ _ (by omega)
   rw[l1,if_pos (by omega)]
   refine⟨[(m,us)],rfl,fun p hp => ?_,by rw[l1];exact hp1,fun _=>by simp⟩
   rw[List.mem_singleton]at hp
   subst hp
   refine⟨rfl,m2,m12,by show us.length=_;omega,fun i i0 i1=>hu _ (ZcC i0 i1),fun i i0 i1 j j0 j1 => ?_⟩
   have i1:i < us.length:=i1
   have j1:j < us.length:=j1
   exact hG i i0 i1 j j0 j1 (by rw[hN];exact(hg.ent i j i0 (by omega) j0 (by omega)).2)
  rw[if_neg hN]
  have hp12:=pow12 (show g.length - us.length=(g.length - (us.length+1))+1 by omega)
  obtain⟨P,hP⟩:∃P,P=(12:Nat) ^ (g.length - (us.length+1)):=⟨_,rfl⟩
  rw[←hP]at hp12
  have loop:∀(n:Nat) (c:Int) (out:List (Int×List Int)),1≤c→c+n=m→out.length+n*P≤1000000000 →
    ∃O,ZV.l2 k m us (us.length:Int) c out g=some (out++O)∧(∀p∈O,p.1=m∧Mdl g m p.2)∧O.length≤n*P∧(c=1→(∀x∈us,x=1)→O≠[]):=by
   intro n
   induction n with
   | zero =>
    intro c out c0 hcm _
    exact⟨[],by rw[ZV.l2_eq,if_neg (by omega),List.append_nil],by simp,Nat.zero_le _,fun h=>by omega⟩
   | succ n ihn =>
    intro c out c0 hcm hb
    rw[Nat.succ_mul]at hb
    have hgcd:=Gcd_ (a:=c) (b:=m) (by omega) (by omega) (by omega) (by omega)
    have wc:wrapI (c+1)=c+1:=w64 (by omega) (by omega)
    have hO:=Own_ us (by omega)
    have l1:([c]:List Int).length=1:=rfl
    rw[ZV.l2_eq,if_pos (by omega),hgcd,Option.bind_some,hO,wc]
    by_cases hc:((Int.gcd c m:Nat):Int)=1
    rotate_left
    ·
     obtain⟨O,o1,o2,o3,o4⟩:=ihn (c+1) out (by omega) (by omega) (by omega)
     refine⟨O,by rw[if_neg hc];exact o1,o2,by rw[Nat.succ_mul];omega,fun h=>absurd ?_ hc⟩
     rw[h,Int.gcd_comm,Int.gcd_one_right];rfl
    rw[if_pos hc]
    by_cases hz:us.length=0∧¬ c=1
    ·
     obtain⟨O,o1,o2,o3,o4⟩:=ihn (c+1) out (by omega) (by omega) (by omega)
     exact⟨O,by rw[if_neg (by omega),if_neg hz.2];exact o1,o2,by rw[Nat.succ_mul];omega,fun h=>absurd h hz.2⟩
    have hu' : ∀x∈us++[c],1≤x∧x < m∧Int.gcd x m=1:=fun x hx=>by
     rcases List.mem_append.1 hx with h|h
     ·
      exact hu x h
     ·
      rw[List.mem_singleton]at h
      subst h
      exact⟨c0,by omega,by omega⟩
    have e1:(us++[c]).length=us.length+1:=by simp
    obtain⟨O,o1,o2,o3,o4⟩:=ih (us++[c]) out hu' (by omega) (by omega) (by rw[e1,←hP];omega)
    rw[e1,←hP]at o3
    obtain⟨O', q1,q2,q3,q4⟩:=ihn (c+1) (out++O) (by omega) (by omega) (by rw[List.length_append];omega)
    refine⟨O++O', ?_,fun p hp => ?_,by rw[List.length_append,Nat.succ_mul];omega,fun h ha => ?_⟩
    ·
     rw[←List.append_assoc,←q1]
     by_cases hx:us.length=0
     ·
      have hc1:c=1:=Classical.byContradiction fun q=>hz ⟨hx,q⟩
      rw[if_neg (by omega),if_pos hc1]
      dsimp only[Option.bind_some]
      rw[l1,if_pos (by omega),o1]
      rfl
     ·
      rw[if_pos (by omega)]
      dsimp only[Option.bind_some]
      rw[l1,if_pos (by omega),o1]
      rfl
    ·
     rcases List.mem_append.1 hp with h|h
     ·
      exact o2 p h
     ·
      exact q2 p h
    ·
     have:=o4 fun x hx=>by
      rcases List.mem_append.1 hx with h' | h'
      ·
       exact ha x h'
      ·
       rw[List.mem_singleton]at h';omega
     simp[this]
  obtain⟨O,a1,a2,a3,a4⟩:=loop (m.toNat - 1) 1 out (by omega) (by omega) (by
   have:(m.toNat - 1)*P≤12*P:=Nat.mul_le_mul_right P (by omega)
   omega)
  refine⟨O,a1,a2,?_,fun h=>a4 rfl h⟩
  rw[hp12]
  exact Nat.le_trans a3 (Nat.mul_le_mul_right P (by omega))
theorem ZmX {g:List (List Int)} (hg:Grp g) {m:Int} (m2:2≤m) (m12:m≤12):∃O,ZbK.f g m=some O∧(∀p∈O,p.1=m∧Mdl g m p.2)∧0 < O.length∧O.length≤429981696:=by
 have n8:=hg.n8
 have hp:(12:Nat) ^ g.length≤429981696:=Nat.le_trans (Nat.pow_le_pow_right (by omega) n8) (by decide)
 obtain⟨O,o1,o2,o3,o4⟩:=Go_ hg m2 m12 fuel [] [] (by simp) (by simp) (by have:=ZfR;simp;omega) (by simp;omega)
 simp only[List.nil_append,List.length_nil,Nat.sub_zero]at o1 o3
 refine⟨O,by rw[ZbK.f_eq,o1];rfl,o2,List.length_pos_iff.2 (o4 (by simp)),by omega⟩
theorem ZmZ {c:List Int} {i:Int} (h:Src c i) (hh:Int):∃m j h', ZbA.f c i hh=some (m,c,j,h')∧Src c j∧2≤m∧m≤12:=by
 obtain⟨x,j,h', e,s,hx⟩:=Pick_ h hh [2,2,3,3,4,4,5,6,8,8,9,12,7,10,11] (by simp) (by simp)
 refine⟨x,j,h', by rw[ZbA.f_eq,e];rfl,s,?_⟩
 simp only[List.mem_cons,List.not_mem_nil,or_false]at hx
 omega
theorem ZmP {O:List (Int×List Int)} {x:Int} (x0:0≤x) (x1:x < O.length):Ty.rd (.pr (.int .i64) (.sl 2 (.int .i64))) O x∈O:=by
 obtain⟨n,rfl⟩:=Int.eq_ofNat_of_zero_le x0
 have hn:n < O.length:=by omega
 have:Ty.rd (.pr (.int .i64) (.sl 2 (.int .i64))) O (n:Int)=O[n]:=by
  simp[Ty.rd,List.getD_eq_getElem?_getD,List.getElem?_eq_getElem hn]
 rw[this]
 exact List.getElem_mem hn
theorem Zmm {c:List Int} {i:Int} (h:Src c i) (hh:Int) {g:List (List Int)} (hg:Grp g) {m:Int} (m2:2≤m) (m12:m≤12):∃u j h', Zbr.f c i hh g m=some (m,u,c,j,h')∧Src c j∧Mdl g m u:=by
 obtain⟨O,o1,o2,o3,o4⟩:=ZmX hg m2 m12
 obtain⟨x,j,h', e,s,x0,x1,_⟩:=Next_ h hh (O.length:Int) (by omega)
 have x1:=x1 (by omega)
 have hm:=o2 _ (ZmP x0 x1)
 refine⟨(Ty.rd (.pr (.int .i64) (.sl 2 (.int .i64))) O x).2,j,h', ?_,s,hm.2⟩
 rw[Zbr.f_eq,o1,Option.bind_some,e]
 dsimp only[Option.bind_some]
 rw[if_pos x0,if_pos x1,if_pos x0,if_pos x1,hm.1]
end Go.Proofs.YthmcpmnhdbeahaaGreat.V
