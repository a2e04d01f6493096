/- What the proof of the law InvariantsOf stands on, part 10: words, each Go function's Lean function, and that the Go code comes to its answers; no condition. (Packed by wip/myprint/pack.py out of what the kit's printer wrote, its words among it, partly by our patches of it, and out of texts of this session.) -/
import Derived.Test.YtdamfbighdkcbaaGreatRows
import Derived.WalkKit
import Derived.ProofKit
import Derived.KernelRfl
import Derived.Test.YtdamfbighdkcbaaGreatKInvariantsOf3
import Derived.Test.YtdamfbighdkcbaaGreatKInvariantsOf4
import Derived.Test.YtdamfbighdkcbaaGreatKInvariantsOf5
import Derived.Test.YtdamfbighdkcbaaGreatKInvariantsOf7
import Derived.Test.YtdamfbighdkcbaaGreatKInvariantsOf8
import Derived.Test.YtdamfbighdkcbaaGreatKInvariantsOf9
set_option linter.unusedVariables false
set_option linter.unusedSimpArgs false
set_option maxHeartbeats 8000000
set_option maxRecDepth 20000
namespace Go.Proofs.YtdamfbighdkcbaaGreat.V
open Go.RowKit Go.Proofs.YtdamfbighdkcbaaGreat.D Go.Proofs.YtdamfbighdkcbaaGreat.P
def sel (p:List (List Int)) (W:Nat):List (List Int):=(nn p W).map fun j:Nat=>row p (j:Int)
theorem Zb7 (p:List (List Int)) (W:Nat):(sel p W).length=(nn p W).length:=List.length_map ..
theorem Zlr {p:List (List Int)} {W k:Nat} (h:k < (nn p W).length):row (sel p W) (k:Int)=row p (((nn p W).getD k 0:Nat):Int):=by
 rw[Zbf (by rw[Zb7];exact h),List.getD_eq_getElem?_getD,List.getElem?_eq_getElem h]
 simp[sel]
theorem Zjh (p:List (List Int)) (W:Nat):sel p (W+1)=if row p (W:Int)≠[]then sel p W++[row p (W:Int)]else sel p W:=by
 unfold sel
 rw[Zdn,List.map_append]
 by_cases h:row p (W:Int)≠[]
 ·
  rw[if_pos h,if_pos h];rfl
 ·
  rw[if_neg h,if_neg h];simp
theorem Zlq {p:List (List Int)} {W:Nat} (h:row p (W:Int)=[]):sel p (W+1)=sel p W:=by rw[Zjh,if_neg fun q=>q h]
theorem Ziu {p:List (List Int)} {W:Nat} (h:¬ row p (W:Int)=[]):sel p (W+1)=sel p W++[row p (W:Int)]:=by rw[Zjh,if_pos h]
theorem nn_le (p:List (List Int)) (W:Nat):(nn p W).length≤W:=by
 have:=List.length_filter_le (fun j=>decide (row p ((j:Nat):Int)≠[])) (List.range W)
 rwa[List.length_range]at this
theorem Rok.sel {m:Int} {W:Nat} {p:List (List Int)} (ht:PTab m W p):Rok m W (sel p W):=fun i hi=>by
 rw[Zb7]at hi
 rw[Zlr hi]
 obtain⟨a,b⟩:=nn_at hi
 have hP:=ht.prow a b
 exact⟨hP.len,hP.ent⟩
theorem Zh3 {p:List (List Int)} {W k:Nat} (h:k < (nn p W).length):gen p (nn p W) k=V (row (sel p W) (k:Int)):=by rw[Zlr h];rfl
theorem ZnV {m:Int} (m2:2≤m) (m12:m≤12) {W:Nat} {p:List (List Int)} {M:Vc→Prop} (hM:Lead m W p M) (x:Vc):Mx m W (sel p W) x↔M x:=by
 constructor
 ·
  intro hx
  refine hM.sub.all (fun g hg => ?_) hx
  obtain⟨r,hr,rfl⟩:=hg
  obtain⟨j,hj,rfl⟩:=List.mem_map.1 hr
  obtain⟨a,b⟩:=ZmH.1 hj
  exact hM.own j a b
 ·
  intro hx
  obtain⟨c,hc⟩:=(Zd4 m2 m12 hM x).1 hx
  refine .alike (Sub.cmb Sp.sub (G:=gen p (nn p W)) (c:=c) _ fun k hk => ?_) hc
  rw[Zh3 hk]
  exact Zbu (by rw[Zb7];exact hk)
theorem ZiK {G G' : Nat→Vc} {c:Vc} {i i' : Nat}:∀n,(∀k,k < n→G k i=G' k i')→cmb G c n i=cmb G' c n i'
 | 0,_=>rfl
 | n+1,h=>by
  show cmb G c n i+c n*G n i=cmb G' c n i' + c n*G' n i'
  rw[ZiK n fun k hk=>h k (by omega),h n (by omega)]
theorem Zg5 {G:Nat→Vc} {c:Vc} {j i:Nat}:∀n,(∀k,k < n→G k i=if k=j then 1 else 0)→cmb G c n i=if j < n then c j else 0
 | 0,_=>by rw[if_neg (Nat.not_lt_zero _)];rfl
 | n+1,h=>by
  show cmb G c n i+c n*G n i=_
  rw[Zg5 n fun k hk=>h k (by omega),h n (by omega)]
  by_cases e:n=j
  ·
   subst e;rw[if_neg (Nat.lt_irrefl _),if_pos rfl,if_pos (Nat.lt_succ_self _)];omega
  ·
   rw[if_neg e]
   by_cases hj:j < n
   ·
    rw[if_pos hj,if_pos (by omega)];omega
   ·
    rw[if_neg hj,if_neg (by omega)];omega
theorem ZiL {G:Nat→Vc} {c:Vc} {j i:Nat}:∀n,(∀k,k < n→c k=if k=j then 1 else 0)→cmb G c n i=if j < n then G j i else 0
 | 0,_=>by rw[if_neg (Nat.not_lt_zero _)];rfl
 | n+1,h=>by
  show cmb G c n i+c n*G n i=_
  rw[ZiL n fun k hk=>h k (by omega),h n (by omega)]
  by_cases e:n=j
  ·
   subst e;rw[if_neg (Nat.lt_irrefl _),if_pos rfl,if_pos (Nat.lt_succ_self _)];omega
  ·
   rw[if_neg e]
   by_cases hj:j < n
   ·
    rw[if_pos hj,if_pos (by omega)];omega
   ·
    rw[if_neg hj,if_neg (by omega)];omega
theorem Zgd {G:Nat→Vc} {c:Vc} {i:Nat}:∀n,(∀k,k < n→c k=0)→cmb G c n i=0
 | 0,_=>rfl
 | n+1,h=>by
  show cmb G c n i+c n*G n i=0
  rw[Zgd n fun k hk=>h k (by omega),h n (by omega)];omega
noncomputable def rrow (S b:List (List Int)) (W:Nat) (i:Nat):List Int:=if i < S.length then row S (i:Int)++unitC S.length i else row (sel b W) ((i - S.length:Nat):Int)++List.replicate S.length 0
theorem Zmh {m:Int} (m2:2≤m) (m12:m≤12) {W:Nat} {z b:List (List Int)} {Z Bs:Vc→Prop} (hz:Lead m W z Z) (hb:Lead m W b Bs) (x:Vc) :
  Sp m (W+(nn z W).length) (Gn (rrow (sel z W) b W) ((nn z W).length+(nn b W).length)) x↔Bs (fun i=>x i+(-1)*cmb (gen z (nn z W)) (fun k=>x (W+k)) (nn z W).length i):=by
 obtain⟨r,hr⟩:∃r,r=(nn z W).length:=⟨_,rfl⟩
 have sl:(sel z W).length=r:=by rw[Zb7,hr]
 have hsr:=Rok.sel hz.tab
 have hbr:=Rok.sel hb.tab
 have hlow:∀k,k < r→∀i,i < W→V (rrow (sel z W) b W k) i=gen z (nn z W) k i:=fun k hk i hi=>by
  unfold rrow
  rw[if_pos (by omega),Zh3 (by omega)]
  show rd _ (i:Int)=rd _ (i:Int)
  rw[ZbK (by rw[(hsr k (by omega)).1];exact hi)]
 have hlow2:∀k,k < r→∀j,V (rrow (sel z W) b W k) (W+j)=if j=k then 1 else 0:=fun k hk j=>by
  unfold rrow
  rw[if_pos (by omega)]
  show rd _ ((W+j:Nat):Int)=_
  rw[ZbL (by rw[(hsr k (by omega)).1];omega),(hsr k (by omega)).1,show W+j - W=j by omega,Zjo (by omega)]
 have hhi:∀l,l < (nn b W).length→∀i,i < W→V (rrow (sel z W) b W (r+l)) i=gen b (nn b W) l i:=fun l hl i hi=>by
  unfold rrow
  rw[if_neg (by omega),sl,show r+l - r=l by omega,Zh3 hl]
  show rd _ (i:Int)=rd _ (i:Int)
  rw[ZbK (by rw[(hbr l (by rw[Zb7];exact hl)).1];exact hi)]
 have hhi2:∀l,l < (nn b W).length→∀j,V (rrow (sel z W) b W (r+l)) (W+j)=0:=fun l hl j=>by
  unfold rrow
  rw[if_neg (by omega),sl,show r+l - r=l by omega]
  show rd _ ((W+j:Nat):Int)=_
  rw[ZbL (by rw[(hbr l (by rw[Zb7];exact hl)).1];omega),ZbD]
 rw[←hr]
 have hN:Sub m (W+r) (fun x=>Bs (fun i=>x i+(-1)*cmb (gen z (nn z W)) (fun k=>x (W+k)) r i)):=by
  refine⟨hb.sub.alike _ _ hb.sub.zero fun i _=>Zaw (by rw[Zgd r fun k _=>rfl];rfl),fun x y h1 h2 c=>hb.sub.alike _ _ (hb.sub.lin _ _ h1 h2 c) fun i _=>Zaw ?_,fun x y h1 h2=>hb.sub.alike _ _ h1 fun i hi => ?_⟩
  ·
   show x i + -1*_+c*(y i + -1*_)=x i+c*y i + -1*cmb (gen z (nn z W)) (fun k=>x (W+k)+c*y (W+k)) r i
   rw[ZbV,Int.mul_add c,Int.mul_add (-1),Int.mul_left_comm c (-1)]
   omega
  ·
   have k1:=h2 i (by omega)
   have k2:=ZcJ (m:=m) (G:=gen z (nn z W)) (c:=fun k=>x (W+k)) (e:=fun k=>y (W+k)) i r fun j hj=>h2 (W+j) (by omega)
   have:=Int.dvd_sub k1 k2
   rwa[show ∀a b c d:Int,a - b - (c - d)=a + -1*c - (b + -1*d)from fun a b c d=>by omega]at this
 constructor
 ·
  intro hx
  refine hN.all (fun g hg => ?_) hx
  obtain⟨i,hi,rfl⟩:=hg
  by_cases h:i < r
  ·
   refine hb.sub.alike _ _ hb.sub.zero fun k hk=>Zaw ?_
   show 0=V (rrow (sel z W) b W i) k + -1*cmb (gen z (nn z W)) (fun j=>V (rrow (sel z W) b W i) (W+j)) r k
   rw[ZiL (j:=i) r fun j hj=>by rw[hlow2 i h],if_pos h,hlow i h k hk]
   omega
  ·
   obtain⟨l,rfl⟩:∃l,i=r+l:=⟨i - r,by omega⟩
   have hl:l < (nn b W).length:=by omega
   obtain⟨a1,a2⟩:=nn_at hl
   refine hb.sub.alike _ _ (hb.own _ a1 a2) fun k hk=>Zaw ?_
   show gen b (nn b W) l k=V (rrow (sel z W) b W (r+l)) k + -1*cmb (gen z (nn z W)) (fun j=>V (rrow (sel z W) b W (r+l)) (W+j)) r k
   rw[Zgd r fun j hj=>hhi2 l hl j,hhi l hl k hk]
   omega
 ·
  intro hx
  obtain⟨e,he⟩:=(Zd4 m2 m12 hb _).1 hx
  have own:∀i,i < r+(nn b W).length→Sp m (W+r) (Gn (rrow (sel z W) b W) (r+(nn b W).length)) (V (rrow (sel z W) b W i)):=fun i hi => .gen ⟨i,hi,rfl⟩
  have s1:=Sub.cmb (Sp.sub (m:=m) (W:=W+r) (G:=Gn (rrow (sel z W) b W) (r+(nn b W).length))) (G:=fun k=>V (rrow (sel z W) b W k)) (c:=fun k=>x (W+k)) r fun k hk=>own k (by omega)
  have s2:=Sub.cmb (Sp.sub (m:=m) (W:=W+r) (G:=Gn (rrow (sel z W) b W) (r+(nn b W).length))) (G:=fun l=>V (rrow (sel z W) b W (r+l))) (c:=e) (nn b W).length fun l hl=>own (r+l) (by omega)
  refine .alike (s1.plus s2) fun i hi => ?_
  by_cases h:i < W
  ·
   have k1:=ZiK (G:=fun k=>V (rrow (sel z W) b W k)) (G' := gen z (nn z W)) (c:=fun k=>x (W+k)) (i:=i) (i' := i) r fun k hk=>hlow k hk i h
   have k2:=ZiK (G:=fun l=>V (rrow (sel z W) b W (r+l))) (G' := gen b (nn b W)) (c:=e) (i:=i) (i' := i) (nn b W).length fun l hl=>hhi l hl i h
   rw[k1,k2]
   have:=he i h
   rwa[show ∀a b c:Int,a - (b + -1*c)=c+a - b from fun a b c=>by omega]at this
  ·
   obtain⟨j,rfl⟩:∃j,i=W+j:=⟨i - W,by omega⟩
   have k1:=Zg5 (G:=fun k=>V (rrow (sel z W) b W k)) (c:=fun k=>x (W+k)) (j:=j) (i:=W+j) r fun k hk=>by
    show V (rrow (sel z W) b W k) (W+j)=_
    rw[hlow2 k hk]
    by_cases e2:j=k
    ·
     rw[if_pos e2,if_pos e2.symm]
    ·
     rw[if_neg e2,if_neg (Ne.symm e2)]
   have k2:=ZiK (G:=fun l=>V (rrow (sel z W) b W (r+l))) (G' := fun _ _=>0) (c:=e) (i:=W+j) (i' := 0) (nn b W).length fun l hl=>hhi2 l hl j
   have k3:∀n,cmb (fun _ _=>0) e n 0=0:=by
    intro n
    induction n with
    | zero=>rfl
    | succ n ih=>show cmb (fun _ _=>0) e n 0+e n*0=0;rw[ih];omega
   rw[k1,k2,k3,if_pos (by omega)]
   exact Zaw (by omega)
theorem Znl {m:Int} {W:Nat} {S:List (List Int)} (h:Rok m W S) (hW:W≤1000) {k:Nat} (hk:k < S.length):ZaK.f (row S (k:Int))=some (row S (k:Int)):=Own_ _ (by have:=(h k hk).1;omega)
theorem Rel_ {m:Int} (m2:2≤m) (m12:m≤12) {W:Nat} (hW:W≤1000) {z b:List (List Int)} {Z Bs:Vc→Prop} (hz:Lead m W z Z) (hb:Lead m W b Bs) (u:List Int) :
  ∃RL,Zg.l0 (W:Int) 0 m u b z []=(Zo.f RL ((nn z W).length:Int) m).bind (fun t130=>(Zh.f t130).bind fun t131=>some t131)∧Rok m (nn z W).length RL∧RL.length≤1000∧∀c,Mx m (nn z W).length RL c↔Bs (cmb (gen z (nn z W)) c (nn z W).length):=by
 have m0:0 < m:=by omega
 have zl:=hz.tab.len
 have bl:=hb.tab.len
 have loop0:=up W (fun k=>Zg.l0 (W:Int) (k:Int) m u b z (sel z k)) (fun k hk=>by
  have sl:=Zb7 z k
  have nl:=nn_le z k
  rw[Zg.l0_eq,wn (j:=k) (by omega)]
  by_cases h:row z (k:Int)=[]
  ·
   have e0:¬ ((row z (k:Int)).length:Int) > 0:=by rw[h];simp
   rw[Zlq h]
   ((with_reducible repeat (first|refine Zl (by first|assumption|omega|rfl|exact B_pos (by omega)) ?_|refine Zk (by first|assumption|omega|decide|exact B_not (by omega)) ?_|refine Ze (by first|assumption) ?_|dsimp only));first|done|(with_reducible rfl)|simp (disch:=omega) only[w64]|(show False;done))
  ·
   have e0:((row z (k:Int)).length:Int) > 0:=by have:=List.length_pos_iff.2 h;omega
   have l1:([row z (k:Int)]:List (List Int)).length=1:=rfl
   rw[Ziu h]
   ((with_reducible repeat (first|refine Zl (by first|assumption|omega|rfl|exact B_pos (by omega)) ?_|refine Zk (by first|assumption|omega|decide|exact B_not (by omega)) ?_|refine Ze (by first|assumption) ?_|dsimp only));first|done|(with_reducible rfl)|simp (disch:=omega) only[w64]|(show False;done)))
 have loop0:Zg.l0 (W:Int) 0 m u b z []=Zg.l0 (W:Int) (W:Int) m u b z (sel z W):=loop0
 obtain⟨S,hS⟩:∃S,S=sel z W:=⟨_,rfl⟩
 obtain⟨r,hr⟩:∃r,r=(nn z W).length:=⟨_,rfl⟩
 have Sl:S.length=r:=by rw[hS,Zb7,hr]
 have rW:r≤W:=by rw[hr];exact nn_le z W
 have Sok:Rok m W S:=by rw[hS];exact Rok.sel hz.tab
 rw[←hS]at loop0
 have loop1:=up r (fun k=>Zg.l1 (W:Int) (k:Int) m u b S ((List.range k).map (rrow S b W))) (fun k hk=>by
  have hO:=Znl Sok hW (k:=k) (by omega)
  obtain⟨lk,ak⟩:=Sok k (by omega)
  have rl:(List.replicate r (0:Int)).length=r:=List.length_replicate
  have ul:((List.replicate r (0:Int)).set k 1).length=r:=by rw[List.length_set];exact rl
  have ml:((List.range k).map (rrow S b W)).length=k:=by simp
  have hrr:rrow S b W k=row S (k:Int)++(List.replicate r 0).set k 1:=by unfold rrow;rw[if_pos (by omega),Sl];rfl
  have l1:([row S (k:Int)++(List.replicate r 0).set k 1]:List (List Int)).length=1:=rfl
  have e1:(r:Int)=(r:Int):=rfl
  rw[Zg.l1_eq,wn (j:=k) (by omega),List.range_succ,List.map_append,List.map_singleton,hrr,Sl,Int.toNat_natCast,Int.toNat_natCast]
  ((with_reducible repeat (first|refine Zl (by first|assumption|omega|rfl|exact B_pos (by omega)) ?_|refine Zk (by first|assumption|omega|decide|exact B_not (by omega)) ?_|refine Ze (by first|assumption) ?_|dsimp only));first|done|(with_reducible rfl)|simp (disch:=omega) only[w64]|(show False;done)))
 have loop1:Zg.l1 (W:Int) 0 m u b S []=Zg.l1 (W:Int) (r:Int) m u b S ((List.range r).map (rrow S b W)):=loop1
 have loop2:=up W (fun k=>Zg.l2 (W:Int) (k:Int) m u b S ((List.range r).map (rrow S b W)++(sel b k).map fun x=>x++List.replicate r 0)) (fun k hk=>by
  have sl:=Zb7 b k
  have nl:=nn_le b k
  have rl:(List.replicate r (0:Int)).length=r:=List.length_replicate
  have ml:((List.range r).map (rrow S b W)++(sel b k).map fun x=>x++List.replicate r 0).length=r+(nn b k).length:=by rw[List.length_append,List.length_map,List.length_map,List.length_range,sl]
  rw[Zg.l2_eq,wn (j:=k) (by omega)]
  by_cases h:row b (k:Int)=[]
  ·
   have e0:¬ ((row b (k:Int)).length:Int) > 0:=by rw[h];simp
   rw[Zlq h]
   ((with_reducible repeat (first|refine Zl (by first|assumption|omega|rfl|exact B_pos (by omega)) ?_|refine Zk (by first|assumption|omega|decide|exact B_not (by omega)) ?_|refine Ze (by first|assumption) ?_|dsimp only));first|done|(with_reducible rfl)|simp (disch:=omega) only[w64]|(show False;done))
  ·
   have hP:=hb.tab.prow hk h
   have pl:=hP.len
   have e0:((row b (k:Int)).length:Int) > 0:=by have:=List.length_pos_iff.2 h;omega
   have hO:=Own_ (row b (k:Int)) (by omega)
   have l1:([row b (k:Int)++List.replicate r 0]:List (List Int)).length=1:=rfl
   rw[Ziu h,List.map_append,List.map_singleton,Sl,Int.toNat_natCast,←List.append_assoc]
   ((with_reducible repeat (first|refine Zl (by first|assumption|omega|rfl|exact B_pos (by omega)) ?_|refine Zk (by first|assumption|omega|decide|exact B_not (by omega)) ?_|refine Ze (by first|assumption) ?_|dsimp only));first|done|(with_reducible rfl)|simp (disch:=omega) only[w64]|(show False;done)))
 have loop2:Zg.l2 (W:Int) 0 m u b S ((List.range r).map (rrow S b W)++[])=Zg.l2 (W:Int) (W:Int) m u b S ((List.range r).map (rrow S b W)++(sel b W).map fun x=>x++List.replicate r 0):=loop2
 obtain⟨X,hX⟩:∃X,X=(List.range r).map (rrow S b W)++(sel b W).map fun x=>x++List.replicate r 0:=⟨_,rfl⟩
 have bn:=nn_le b W
 have Xl:X.length=r+(nn b W).length:=by rw[hX,List.length_append,List.length_map,List.length_map,List.length_range,Zb7]
 have Xrow:∀i:Nat,i < X.length→row X (i:Int)=rrow S b W i:=fun i hi=>by
  by_cases h:i < r
  ·
   rw[Zbf hi]
   simp only[hX]
   rw[List.getElem_append_left (by simpa using h)]
   simp
  ·
   have hrr:rrow S b W i=row (sel b W) ((i - r:Nat):Int)++List.replicate r 0:=by unfold rrow;rw[if_neg (by omega),Sl]
   rw[hrr,Zbf hi,Zbf (by rw[Zb7];omega)]
   simp only[hX]
   rw[List.getElem_append_right (by simp;omega)]
   simp
 have Xok:∀i:Nat,i < X.length→(row X (i:Int)).length=W+r∧AllIn m (row X (i:Int)):=fun i hi=>by
  rw[Xrow i hi]
  unfold rrow
  by_cases h:i < S.length
  ·
   rw[if_pos h]
   obtain⟨a1,a2⟩:=Sok i h
   exact⟨by rw[List.length_append,a1,Zci,Sl],a2.append (Ze2 m2 _ _)⟩
  ·
   rw[if_neg h]
   obtain⟨a1,a2⟩:=Rok.sel hb.tab (i - S.length) (by rw[Zb7];omega)
   exact⟨by rw[List.length_append,a1,List.length_replicate,Sl],a2.append (ZgR m0 _)⟩
 obtain⟨p,p1,p2⟩:=Ziy (W:=W+r) m2 m12 (by omega) (X:=X) (by omega) Xok
 have p3:=p2.lead m0
 have pM:∀x,Sp m (W+r) (Gn (fun i=>row X (i:Int)) X.length) x↔Bs (fun i=>x i+(-1)*cmb (gen z (nn z W)) (fun k=>x (W+k)) r i):=fun x=>by
  have e:Gn (fun i=>row X (i:Int)) X.length=Gn (rrow (sel z W) b W) ((nn z W).length+(nn b W).length):=by
   funext v
   rw[←hS,←hr,←Xl]
   refine propext ⟨fun⟨i,hi,e⟩=>⟨i,hi,by rw[e];congr 1;exact Xrow i hi⟩,fun⟨i,hi,e⟩=>⟨i,hi,by rw[e];congr 1;exact(Xrow i hi).symm⟩⟩
  rw[e,hr]
  exact Zmh m2 m12 hz hb x
 have q1:=Zcm (A:=W) (B:=r) m0 p3
 obtain⟨Q,hQ⟩:∃Q,Q=Zcd p W r:=⟨_,rfl⟩
 rw[←hQ]at q1
 have qrow:∀k:Nat,k < r→row Q (k:Int)=(row p ((W+k:Nat):Int)).drop W:=fun k hk=>by rw[hQ];exact ZeR hk
 have pl:=p3.tab.len
 have loop3:=up r (fun k=>Zg.l3 (W:Int) ((W+k:Nat):Int) m u S p (sel Q k)) (fun k hk=>by
  have sl:=Zb7 Q k
  have nl:=nn_le Q k
  have hq:=qrow k hk
  rw[show W+(k+1)=W+k+1 from rfl,Zg.l3_eq,wn (j:=W+k) (by omega)]
  by_cases h:row p ((W+k:Nat):Int)=[]
  ·
   have e0:¬ ((row p ((W+k:Nat):Int)).length:Int) > 0:=by rw[h];simp
   rw[Zlq (p:=Q) (W:=k) (by rw[hq,h];simp)]
   ((with_reducible repeat (first|refine Zl (by first|assumption|omega|rfl|exact B_pos (by omega)) ?_|refine Zk (by first|assumption|omega|decide|exact B_not (by omega)) ?_|refine Ze (by first|assumption) ?_|dsimp only));first|done|(with_reducible rfl)|simp (disch:=omega) only[w64]|(show False;done))
  ·
   have hP:=p3.tab.prow (show W+k < W+r by omega) h
   have pl' := hP.len
   have e0:((row p ((W+k:Nat):Int)).length:Int) > 0:=by omega
   have hd:((row p ((W+k:Nat):Int)).drop W).length=r:=by rw[List.length_drop,pl'];omega
   have hO:=Own_ ((row p ((W+k:Nat):Int)).drop W) (by omega)
   have l1:([(row p ((W+k:Nat):Int)).drop W]:List (List Int)).length=1:=rfl
   rw[Ziu (p:=Q) (W:=k) (fun e=>by rw[hq]at e;rw[e]at hd;simp at hd;omega),hq,Int.toNat_natCast]
   ((with_reducible repeat (first|refine Zl (by first|assumption|omega|rfl|exact B_pos (by omega)) ?_|refine Zk (by first|assumption|omega|decide|exact B_not (by omega)) ?_|refine Ze (by first|assumption) ?_|dsimp only));first|done|(with_reducible rfl)|simp (disch:=omega) only[w64]|(show False;done)))
 have loop3:Zg.l3 (W:Int) (W:Int) m u S p []=Zg.l3 (W:Int) ((W+r:Nat):Int) m u S p (sel Q r):=loop3
 have w:wrapI ((W:Int)+(r:Int))=((W+r:Nat):Int):=by rw[w64 (by omega) (by omega)];omega
 have rok:=Rok.sel q1.tab
 refine⟨sel Q r,?_,by rw[←hr];exact rok,by rw[Zb7];have:=nn_le Q r;omega,fun c => ?_⟩
 ·
  have f0:Zg.l0 (W:Int) (W:Int) m u b z S=Zg.l1 (W:Int) 0 m u b S []:=by
   rw[Zg.l0_eq];((with_reducible repeat (first|refine Zl (by first|assumption|omega|rfl|exact B_pos (by omega)) ?_|refine Zk (by first|assumption|omega|decide|exact B_not (by omega)) ?_|refine Ze (by first|assumption) ?_|dsimp only));first|done|(with_reducible rfl)|simp (disch:=omega) only[w64]|(show False;done))
  have f1:Zg.l1 (W:Int) (r:Int) m u b S ((List.range r).map (rrow S b W))=Zg.l2 (W:Int) 0 m u b S ((List.range r).map (rrow S b W)):=by
   rw[Zg.l1_eq,Sl];((with_reducible repeat (first|refine Zl (by first|assumption|omega|rfl|exact B_pos (by omega)) ?_|refine Zk (by first|assumption|omega|decide|exact B_not (by omega)) ?_|refine Ze (by first|assumption) ?_|dsimp only));first|done|(with_reducible rfl)|simp (disch:=omega) only[w64]|(show False;done))
  have f2:Zg.l2 (W:Int) (W:Int) m u b S X=Zg.l3 (W:Int) (W:Int) m u S p []:=by
   rw[Zg.l2_eq,Sl,w]
   (with_reducible repeat (first|refine Zl (by first|assumption|omega|rfl|exact B_pos (by omega)) ?_|refine Zk (by first|assumption|omega|decide|exact B_not (by omega)) ?_|refine Ze (by first|assumption) ?_|dsimp only))
   all_goals rfl
  rw[List.append_nil]at loop2
  rw[loop0,f0,loop1,f1,loop2,←hX,f2,loop3,Zg.l3_eq,Sl,←hr]
  (with_reducible repeat (first|refine Zl (by first|assumption|omega|rfl|exact B_pos (by omega)) ?_|refine Zk (by first|assumption|omega|decide|exact B_not (by omega)) ?_|refine Ze (by first|assumption) ?_|dsimp only))
  all_goals rfl
 ·
  rw[←hr,ZnV m2 m12 q1,pM]
  have e1:(fun k=>pad W c (W+k))=c:=funext fun k=>by unfold pad;rw[if_neg (by omega),show W+k - W=k by omega]
  rw[e1]
  constructor
  ·
   intro h
   refine hb.sub.alike _ _ (hb.sub.lin _ _ hb.sub.zero h (-1)) fun i hi=>Zaw ?_
   show 0 + -1*(pad W c i + -1*cmb (gen z (nn z W)) c r i)=_
   unfold pad
   rw[if_pos hi]
   omega
  ·
   intro h
   refine hb.sub.alike _ _ (hb.sub.lin _ _ hb.sub.zero h (-1)) fun i hi=>Zaw ?_
   show 0 + -1*cmb (gen z (nn z W)) c r i=pad W c i + -1*cmb (gen z (nn z W)) c r i
   unfold pad
   rw[if_pos hi]
structure InvOf (m:Int) (W:Nat) (Z Bs:Vc→Prop) (L:List Int):Prop where
 chn:Chn m L
 dia:∃(p:List (List Int)) (ns:List Int),Lead m W p Z∧(∀n∈ns,0 < n∧n∣m)∧ns.length=(nn p W).length∧(∀t∈qs,cq t.1 L=cq t.1 ns)∧L.length≤ns.length∧Dg m (nn p W).length (fun c=>Bs (cmb (gen p (nn p W)) c (nn p W).length)) ns
theorem ZhN {g:List (List Int)} (hg:Grp g) {m:Int} {u:List Int} (hm:Mdl g m u) {n:Nat} (hn:n≤3) (hr:nB g n≤49):∃L,Zg.f g m u (n:Int)=some L∧InvOf m (nB g n) (coM g m u n) (Sp m (nB g n) (bdG g m u n)) L:=by
 have m2:=hm.m2;have m12:=hm.m12
 obtain⟨b,z,h1,h2,h3⟩:=Both_ hg hm hn
 have hc:=Ze7 hg (d:=(n:Int)) (by omega) (by omega)
 rw[←(nA_bd hg (e:=n) (by omega)).2]at hc
 obtain⟨RL,k1,k2,k3,k4⟩:=Rel_ m2 m12 (by omega) h3 h2 u
 have rl:=nn_le z (nB g n)
 obtain⟨ns,n1,n2,n3,n4⟩:=ZmT m2 m12 (nn z (nB g n)).length RL [] (by omega) k2 (by omega) (by rw[List.length_nil];omega)
 obtain⟨L,l1,l2,l3,l4⟩:=ZnF m2 m12 n3 (by omega)
 refine⟨L,?_,l2,z,ns,h3,n3,n2,l3,l4,?_⟩
 ·
  rw[Zg.f_eq,h1]
  show(ZK.f g (n:Int)).bind _=_
  rw[hc]
  show Zg.l0 _ _ _ _ _ _ _=_
  rw[k1,Zo.f_eq,n1,List.nil_append]
  show(Zh.f ns).bind _=_
  rw[l1]
  rfl
 ·
  exact n4.eqd (.of fun c=>(k4 c).symm)
end Go.Proofs.YtdamfbighdkcbaaGreat.V
set_option maxHeartbeats 2000000
namespace Go.Proofs.YtdamfbighdkcbaaGreat.V
open Go.RowKit Go.Proofs.YtdamfbighdkcbaaGreat.D Go.Proofs.YtdamfbighdkcbaaGreat.P
theorem indexFuncI {F:Int→Option Bool} {p:Int→Bool} (xs:List Int) (hl:xs.length≤1048576) (hF:∀x∈xs,F x=some (p x)) :
  ((∀x∈xs,p x=false)∧Zn.f xs F=some (-1))∨∃i:Nat,i < xs.length∧p (rd xs i)=true∧(∀x∈xs.take i,p x=false)∧Zn.f xs F=some (i:Int):=by
 rw[Zn.f_eq]
 suffices H:∀d m:Nat,m+d=xs.length→(∀x∈xs.take m,p x=false)→((∀x∈xs,p x=false)∧Zn.l0 xs F (xs.length:Int) m=some (-1))∨∃i:Nat,i < xs.length∧p (rd xs i)=true∧(∀x∈xs.take i,p x=false)∧Zn.l0 xs F (xs.length:Int) m=some (i:Int)from
  H xs.length 0 (by omega) (by simp)
 intro d
 induction d with
 | zero =>
  intro m hd hp
  obtain rfl:m=xs.length:=by omega
  rw[List.take_length]at hp
  refine .inl ⟨hp,?_⟩
  rw[Zn.l0_eq]
  ((with_reducible repeat (first|refine Zl (by first|assumption|omega|rfl|exact B_pos (by omega)) ?_|refine Zk (by first|assumption|omega|decide|exact B_not (by omega)) ?_|refine Ze (by first|assumption) ?_|dsimp only));first|done|(with_reducible rfl)|simp (disch:=omega) only[w64]|(show False;done))
 | succ d ih =>
  intro m hd hp
  have hf:=hF (rd xs m) (ZcD (by omega) (by omega))
  cases h:p (rd xs m)with
  | true =>
   rw[h]at hf
   refine .inr ⟨m,by omega,h,hp,?_⟩
   rw[Zn.l0_eq]
   ((with_reducible repeat (first|refine Zl (by first|assumption|omega|rfl|exact B_pos (by omega)) ?_|refine Zk (by first|assumption|omega|decide|exact B_not (by omega)) ?_|refine Ze (by first|assumption) ?_|dsimp only));first|done|(with_reducible rfl)|simp (disch:=omega) only[w64]|(show False;done))
  | false =>
   rw[h]at hf
   have st:Zn.l0 xs F (xs.length:Int) m=Zn.l0 xs F (xs.length:Int) ((m+1:Nat):Int):=by
    rw[Zn.l0_eq,wn (j:=m) (by omega)]
    ((with_reducible repeat (first|refine Zl (by first|assumption|omega|rfl|exact B_pos (by omega)) ?_|refine Zk (by first|assumption|omega|decide|exact B_not (by omega)) ?_|refine Ze (by first|assumption) ?_|dsimp only));first|done|(with_reducible rfl)|simp (disch:=omega) only[w64]|(show False;done))
   rw[st]
   refine ih (m+1) (by omega) fun x hx => ?_
   rw[ZeC (by omega)]at hx
   rcases List.mem_append.1 hx with hx|hx
   ·
    exact hp x hx
   ·
    rw[List.mem_singleton.1 hx];exact h
theorem ZjC {F:Int→Option Bool} {p:Int→Bool} (xs:List Int) (hl:xs.length≤1048576) (hF:∀x∈xs,F x=some (p x)):Zt.f xs F=some (xs.filter fun x => !p x):=by
 have hi:=indexFuncI (F:=fun z0=>(F z0).map fun z=>z) (p:=p) xs hl (fun x hx=>by
  show Option.map _ (F x)=_
  rw[hF x hx];rfl)
 rw[Zt.f_eq]
 rcases hi with ⟨h,e⟩|⟨i,i1,hpi,hp,e⟩
 ·
  rw[e,Option.bind_some,if_pos rfl,List.filter_eq_self.2 fun x hx=>by rw[h x hx];rfl]
 rw[e,Option.bind_some,if_neg (by omega),wn (j:=i) (by omega)]
 have fil:∀m:Nat,(xs.take m).filter (fun x => !p x)=(xs.take m).filter (fun x => !p x):=fun _=>rfl
 have H:∀d m:Nat,m+d=xs.length→∀(k:Nat) (r:List Int),k < m→r.length=xs.length→r.take k=(xs.take m).filter (fun x => !p x)→r.drop m=xs.drop m→Zt.l0 F (k:Int) (m:Int) r=some (xs.filter fun x => !p x):=by
  intro d
  induction d with
  | zero =>
   intro m hd k r hk hr h1 _
   obtain rfl:m=xs.length:=by omega
   rw[List.take_length]at h1
   have l1:(r.take k++List.replicate (r.length - k) 0).length=xs.length:=by rw[List.length_append,List.length_take,List.length_replicate];omega
   have e2:(r.take k++List.replicate (r.length - k) 0).take k=r.take k:=by
    rw[List.take_append_of_le_length (by rw[List.length_take];omega),List.take_take,Nat.min_self]
   rw[Zt.l0_eq,Int.toNat_natCast,l1,e2,←h1]
   ((with_reducible repeat (first|refine Zl (by first|assumption|omega|rfl|exact B_pos (by omega)) ?_|refine Zk (by first|assumption|omega|decide|exact B_not (by omega)) ?_|refine Ze (by first|assumption) ?_|dsimp only));first|done|(with_reducible rfl)|simp (disch:=omega) only[w64]|(show False;done))
  | succ d ih =>
   intro m hd k r hk hr h1 h2
   have hrx:rd r (m:Int)=rd xs (m:Int):=by
    have hm1:m < r.length:=by omega
    have hm2:m < xs.length:=by omega
    have:=congrArg List.head? h2
    rw[Zgh hm1,Zgh hm2]at this
    simpa using this
   have hd2:r.drop (m+1)=xs.drop (m+1):=by
    have hm1:m < r.length:=by omega
    have hm2:m < xs.length:=by omega
    have:=congrArg List.tail h2
    rw[Zgh hm1,Zgh hm2]at this
    simpa using this
   have hf:=hF (rd xs m) (ZcD (by omega) (by omega))
   have tk:=ZeC (xs:=xs) (m:=m) (by omega)
   rw[Zt.l0_eq,hrx,hf,Option.bind_some,wn (j:=m) (by omega),wn (j:=k) (by omega),Int.toNat_natCast]
   cases h:p (rd xs m)with
   | true =>
    have:=ih (m+1) (by omega) k r (by omega) hr (by rw[tk,List.filter_append,h1];simp[h]) hd2
    (with_reducible repeat (first|refine Zl (by first|assumption|omega|rfl|exact B_pos (by omega)) ?_|refine Zk (by first|assumption|omega|decide|exact B_not (by omega)) ?_|refine Ze (by first|assumption) ?_|dsimp only))
    exact this
   | false =>
    have:=ih (m+1) (by omega) (k+1) (r.set k (rd xs m)) (by omega) (by rw[List.length_set,hr]) (by
     rw[tk,List.filter_append,←h1,List.take_succ_eq_append_getElem (by rw[List.length_set];omega),List.getElem_set_self,List.take_set_of_le (Nat.le_refl _)]
     simp[h]) (by rw[List.drop_set_of_lt (by omega)];exact hd2)
    (with_reducible repeat (first|refine Zl (by first|assumption|omega|rfl|exact B_pos (by omega)) ?_|refine Zk (by first|assumption|omega|decide|exact B_not (by omega)) ?_|refine Ze (by first|assumption) ?_|dsimp only))
    exact this
 refine H (xs.length - (i+1)) (i+1) (by omega) i xs (by omega) rfl ?_ rfl
 rw[ZeC i1,List.filter_append,List.filter_eq_self.2 fun x hx=>by rw[hp x hx];rfl]
 simp[hpi]
end Go.Proofs.YtdamfbighdkcbaaGreat.V
set_option maxHeartbeats 8000000
namespace Go.Proofs.YtdamfbighdkcbaaGreat.V
open Go.RowKit Go.Proofs.YtdamfbighdkcbaaGreat.D Go.Proofs.YtdamfbighdkcbaaGreat.P
def upd1 (F x:List Int) (j:Nat):List Int:=F.take j++x.drop j
theorem Zdw (F x:List Int):upd1 F x 0=x:=rfl
theorem Zeg {F x:List Int} (h:F.length=x.length):upd1 F x x.length=F:=by rw[upd1,←h,List.take_length,h,List.drop_length,List.append_nil]
theorem Zeh {F x:List Int} (h:F.length=x.length) (j:Nat):(upd1 F x j).length=x.length:=by rw[upd1,List.length_append,List.length_take,List.length_drop];omega
theorem ZfG {F x:List Int} (h:F.length=x.length) {j:Nat} (hj:j < x.length):rd (upd1 F x j) (j:Int)=rd x (j:Int):=by
 have hl:(F.take j).length=j:=by rw[List.length_take];omega
 rw[upd1,ZbL (by omega),hl,Nat.sub_self,ZcE,ZcE,List.getD_eq_getElem?_getD,List.getD_eq_getElem?_getD,List.getElem?_drop,Nat.add_zero]
theorem Zdv {F x:List Int} (h:F.length=x.length) {j:Nat} (hj:j < x.length):(upd1 F x j).set j (rd F (j:Int))=upd1 F x (j+1):=ZgK h hj rfl
theorem ZkL {x m:Int} (x0 : -4000000000000000000≤x) (x1:x≤4000000000000000000) (m0:0 < m) (m1:m≤1000000):Int.tmod (wrapI (Int.tmod x m+m)) m=x%m:=by
 have t0:=Int.tmod_lt_of_pos x m0
 have t1 : -m < Int.tmod x m:=Int.lt_tmod_of_pos x m0
 have hq:=Int.mul_tdiv_add_tmod x m
 have h5:(m*x.tdiv m+x.tmod m)%m=x.tmod m%m:=by rw[Int.add_comm,Int.add_mul_emod_self_left]
 rw[hq]at h5
 rw[w64 (by omega) (by omega),Int.tmod_eq_emod_of_nonneg (show 0≤Int.tmod x m+m by omega),Int.add_emod_right,←h5]
section
variable {m:Int} {W R:Nat}
theorem ZkE (m2:2≤m) (m12:m≤12) (hW:W≤1000) {X:List (List Int)} (hX:X.length=R) (hR:R≤100000) (hl:∀i:Nat,i < R→(row X (i:Int)).length=W∧∀c:Nat,c < W → -1000000≤rd (row X (i:Int)) (c:Int)∧rd (row X (i:Int)) (c:Int)≤1000000) (out:List Int) :
  Za.l0 m (W:Int) (R:Int) 0 X out=Za.l2 m (W:Int) (X.map fun x=>nf m W (V x)) out:=by
 have loop:=up R (fun i=>Za.l0 m (W:Int) (R:Int) (i:Int) (updR (fun x=>nf m W (V x)) X i) out) (fun i hi=>by
  obtain⟨li,bi⟩:=hl i hi
  have ul:=Zei (fun x=>nf m W (V x)) X i
  have ur:=Ze4 (fun x=>nf m W (V x)) X (j:=i) (by omega)
  obtain⟨U,hU⟩:∃U,U=updR (fun x=>nf m W (V x)) X i:=⟨_,rfl⟩
  obtain⟨x,hx⟩:∃x,x=row X (i:Int):=⟨_,rfl⟩
  rw[←hU]at ul ur
  rw[←hx]at ur li bi
  have Fl:(nf m W (V x)).length=x.length:=by rw[ZeO,li]
  have hset:U.set (i:Int).toNat (row U (i:Int))=U:=by rw[Int.toNat_natCast];exact Zbe U i
  have inner:=up W (fun c=>Za.l1 m (W:Int) (i:Int) (R:Int) (i:Int) (W:Int) (c:Int) (U.set i (upd1 (nf m W (V x)) x c)) out) (fun c hc=>by
   obtain⟨b0,b1⟩:=bi c hc
   have sl:(U.set i (upd1 (nf m W (V x)) x c)).length=R:=by rw[List.length_set];omega
   have sr:row (U.set i (upd1 (nf m W (V x)) x c)) (i:Int)=upd1 (nf m W (V x)) x c:=ZaD (by omega)
   have l1:=Zeh Fl c
   have tv:T (U.set i (upd1 (nf m W (V x)) x c)) (i:Int) (c:Int)=rd x (c:Int):=by
    show rd (row _ _) (c:Int)=_
    rw[sr,ZfG Fl (by omega)]
   have ev:=ZkL (x:=rd x (c:Int)) (m:=m) (by omega) (by omega) (by omega) (by omega)
   have ev2:rd x (c:Int)%m=rd (nf m W (V x)) (c:Int):=(nf_rd (x:=V x) hc).symm
   have me:¬ m=0:=by omega
   rw[Za.l1_eq,wn (j:=c) (by omega),tv,ev,ev2,sr,Int.toNat_natCast,Int.toNat_natCast,Zdv Fl (by omega),List.set_set]
   ((with_reducible repeat (first|refine Zl (by first|assumption|omega|rfl|exact B_pos (by omega)) ?_|refine Zk (by first|assumption|omega|decide|exact B_not (by omega)) ?_|refine Ze (by first|assumption) ?_|dsimp only));first|done|(with_reducible rfl)|simp (disch:=omega) only[w64]|(show False;done)))
  rw[Zdw,show upd1 (nf m W (V x)) x W=nf m W (V x)by rw[←li];exact li ▸ Zeg Fl]at inner
  have hset2:U.set i x=U:=by rw[←ur];exact Zbe U i
  rw[hset2]at inner
  have inner:Za.l1 m (W:Int) (i:Int) (R:Int) (i:Int) (W:Int) 0 U out=_:=inner
  have sl:(U.set i (nf m W (V x))).length=R:=by rw[List.length_set];omega
  have fin:Za.l1 m (W:Int) (i:Int) (R:Int) (i:Int) (W:Int) (W:Int) (U.set i (nf m W (V x))) out=Za.l0 m (W:Int) (R:Int) ((i+1:Nat):Int) (U.set i (nf m W (V x))) out:=by
   rw[Za.l1_eq,wn (j:=i) (by omega)]
   ((with_reducible repeat (first|refine Zl (by first|assumption|omega|rfl|exact B_pos (by omega)) ?_|refine Zk (by first|assumption|omega|decide|exact B_not (by omega)) ?_|refine Ze (by first|assumption) ?_|dsimp only));first|done|(with_reducible rfl)|simp (disch:=omega) only[w64]|(show False;done))
  rw[←hU,←Zej _ _ (show i < X.length by omega),←hU,←hx]
  show _=Za.l0 m (W:Int) (R:Int) ((i+1:Nat):Int) (U.set i (nf m W (V x))) out
  rw[←fin,←inner,Za.l0_eq,hset,ur,li]
  ((with_reducible repeat (first|refine Zl (by first|assumption|omega|rfl|exact B_pos (by omega)) ?_|refine Zk (by first|assumption|omega|decide|exact B_not (by omega)) ?_|refine Ze (by first|assumption) ?_|dsimp only));first|done|(with_reducible rfl)|simp (disch:=omega) only[w64]|(show False;done)))
 rw[Zek,←hX,Ze3]at loop
 have loop:Za.l0 m (W:Int) (X.length:Int) 0 X out=_:=loop
 rw[←hX,loop,Za.l0_eq]
 ((with_reducible repeat (first|refine Zl (by first|assumption|omega|rfl|exact B_pos (by omega)) ?_|refine Zk (by first|assumption|omega|decide|exact B_not (by omega)) ?_|refine Ze (by first|assumption) ?_|dsimp only));first|done|(with_reducible rfl)|simp (disch:=omega) only[w64]|(show False;done))
def FndI (m:Int) (r:List (List Int)) (k:Nat) (Z:Nat→Nat→Prop) (x y best:Int):Prop :=
 (x = -1∧best=m∧∀i c:Nat,Z i c→rd (row r (i:Int)) (c:Int)=0) ∨
 ∃A C:Nat,x=(A:Int)∧y=(C:Int)∧Z A C∧¬ rd (row r (A:Int)) (C:Int)=0∧best=((Int.gcd (rd (row r (A:Int)) (C:Int)) m:Nat):Int) ∧
  (∀i c:Nat,Z i c→¬ rd (row r (i:Int)) (c:Int)=0→best≤((Int.gcd (rd (row r (i:Int)) (c:Int)) m:Nat):Int)) ∧
  (Z k k→¬ rd (row r (k:Int)) (k:Int)=0→((Int.gcd (rd (row r (k:Int)) (k:Int)) m:Nat):Int)≤best→A=k∧C=k)
theorem Zg9 (m2:2≤m) (m12:m≤12) (hW:W≤1000) (hR:R≤100000) {r:List (List Int)} (hl:r.length=R) (ok:Rok m W r) {k:Nat} (hk:k < W) (out:List Int) :
  ∃x y best,Za.l3 m (W:Int) (k:Int) (-1) (-1) (k:Int) r out m=Za.l3 m (W:Int) (k:Int) x y (max R k:Nat) r out best∧FndI m r k (fun i c=>k≤i∧i < R∧k≤c∧c < W) x y best:=by
 have inner:∀(n c i:Nat) (x y best:Int),c+n=W→k≤c→k≤i→i < R→FndI m r k (fun i' c' => k≤i' ∧ k≤c' ∧ (i' < i∧c' < W∨i' = i∧c' < c)) x y best→∃x' y' best', Za.l4 m (W:Int) (k:Int) x y (i:Int) (c:Int) r out best=Za.l3 m (W:Int) (k:Int) x' y' ((i+1:Nat):Int) r out best' ∧ FndI m r k (fun i' c' => k≤i' ∧ k≤c' ∧ i' < i+1∧c' < W) x' y' best' := by
  intro n
  induction n with
  | zero =>
   intro c i x y best hc _ _ hi hF
   refine⟨x,y,best,?_,?_⟩
   ·
    rw[Za.l4_eq,wn (j:=i) (by omega)]
    ((with_reducible repeat (first|refine Zl (by first|assumption|omega|rfl|exact B_pos (by omega)) ?_|refine Zk (by first|assumption|omega|decide|exact B_not (by omega)) ?_|refine Ze (by first|assumption) ?_|dsimp only));first|done|(with_reducible rfl)|simp (disch:=omega) only[w64]|(show False;done))
   ·
    have hZ:∀i' c' : Nat,(k≤i' ∧ k≤c' ∧ i' < i+1∧c' < W)↔(k≤i' ∧ k≤c' ∧ (i' < i∧c' < W∨i' = i∧c' < c)):=fun i' c' => by omega
    rcases hF with ⟨h1,h2,h3⟩|⟨A,C,h1,h2,h3,h4,h5,h6,h7⟩
    ·
     exact .inl ⟨h1,h2,fun i' c' h=>h3 i' c' ((hZ i' c').1 h)⟩
    ·
     exact .inr ⟨A,C,h1,h2,(hZ A C).2 h3,h4,h5,fun i' c' h=>h6 i' c' ((hZ i' c').1 h),fun h=>h7 ((hZ k k).1 h)⟩
  | succ n ih =>
   intro c i x y best hc hkc hki hi hF
   obtain⟨li,ai⟩:=ok i (by omega)
   obtain⟨v0,v1⟩:=ok.bd (i:=i) (k:=c) (by omega) (by omega)
   obtain⟨v,hv⟩:∃v,v=rd (row r (i:Int)) (c:Int):=⟨_,rfl⟩
   rw[←hv]at v0 v1
   have tv:T r (i:Int) (c:Int)=v:=hv.symm
   have hG:=gcd_ (a:=v) (b:=m) v0 (by omega)
   obtain⟨g,hg⟩:∃g,g=((Int.gcd v m:Nat):Int):=⟨_,rfl⟩
   rw[←hg]at hG
   have hset:r.set (i:Int).toNat (row r (i:Int))=r:=by rw[Int.toNat_natCast];exact Zbe r i
   rw[Za.l4_eq,wn (j:=c) (by omega)]
   simp only[hset,tv]
   by_cases v00:v=0
   ·
    obtain ⟨x', y', best', k1,k2⟩:=ih (c+1) i x y best (by omega) (by omega) hki hi (by
     rcases hF with ⟨h1,h2,h3⟩|⟨A,C,h1,h2,h3,h4,h5,h6,h7⟩
     ·
      refine .inl ⟨h1,h2,fun i' c' h => ?_⟩
      by_cases e:i' = i∧c' = c
      ·
       rw[e.1,e.2,←hv];exact v00
      ·
       exact h3 i' c' (by omega)
     ·
      refine .inr ⟨A,C,h1,h2,by omega,h4,h5,fun i' c' h hne => ?_,fun h hne => ?_⟩
      ·
       by_cases e:i' = i∧c' = c
       ·
        rw[e.1,e.2,←hv]at hne;exact absurd v00 hne
       ·
        exact h6 i' c' (by omega) hne
      ·
       by_cases e:k=i∧k=c
       ·
        exfalso
        have e1:rd (row r (k:Int)) (k:Int)=v:=by rw[hv,show i=k from e.1.symm,show c=k from e.2.symm]
        rw[e1]at hne;exact hne v00
       ·
        exact h7 (by omega) hne)
    refine⟨x', y', best', ?_,k2⟩
    rw[←k1]
    ((with_reducible repeat (first|refine Zl (by first|assumption|omega|rfl|exact B_pos (by omega)) ?_|refine Zk (by first|assumption|omega|decide|exact B_not (by omega)) ?_|refine Ze (by first|assumption) ?_|dsimp only));first|done|(with_reducible rfl)|simp (disch:=omega) only[w64]|(show False;done))
   ·
    have gle:g≤v:=by rw[hg];exact Int.le_of_dvd (by omega) (Int.gcd_dvd_left ..)
    by_cases hb:g < best
    ·
     obtain ⟨x', y', best', k1,k2⟩:=ih (c+1) i (i:Int) (c:Int) g (by omega) (by omega) hki hi (by
      refine .inr ⟨i,c,rfl,rfl,by omega,by rw[←hv];exact v00,by rw[←hv];exact hg,fun i' c' h hne => ?_,fun h hne hle => ?_⟩
      ·
       by_cases e:i' = i∧c' = c
       ·
        rw[e.1,e.2,←hv,←hg];exact Int.le_refl _
       ·
        rcases hF with ⟨h1,h2,h3⟩|⟨A,C,h1,h2,h3,h4,h5,h6,h7⟩
        ·
         exact absurd (h3 i' c' (by omega)) hne
        ·
         have:=h6 i' c' (by omega) hne
         omega
      ·
       by_cases e:i=k∧c=k
       ·
        exact e
       ·
        exfalso
        rcases hF with ⟨h1,h2,h3⟩|⟨A,C,h1,h2,h3,h4,h5,h6,h7⟩
        ·
         exact hne (h3 k k (by omega))
        ·
         have:=h6 k k (by omega) hne
         omega)
     refine⟨x', y', best', ?_,k2⟩
     rw[←k1]
     ((with_reducible repeat (first|refine Zl (by first|assumption|omega|rfl|exact B_pos (by omega)) ?_|refine Zk (by first|assumption|omega|decide|exact B_not (by omega)) ?_|refine Ze (by first|assumption) ?_|dsimp only));first|done|(with_reducible rfl)|simp (disch:=omega) only[w64]|(show False;done))
    ·
     obtain ⟨x', y', best', k1,k2⟩:=ih (c+1) i x y best (by omega) (by omega) hki hi (by
      rcases hF with ⟨h1,h2,h3⟩|⟨A,C,h1,h2,h3,h4,h5,h6,h7⟩
      ·
       omega
      ·
       refine .inr ⟨A,C,h1,h2,by omega,h4,h5,fun i' c' h hne => ?_,fun h hne hle => ?_⟩
       ·
        by_cases e:i' = i∧c' = c
        ·
         rw[e.1,e.2,←hv,←hg];omega
        ·
         exact h6 i' c' (by omega) hne
       ·
        by_cases e:k=i∧k=c
        ·
         by_cases e2:A=k∧C=k
         ·
          exact e2
         ·
          exfalso
          have:(k≤A∧k≤C)∧¬ (A=k∧C=k)∧(A < i∧C < W∨A=i∧C < c):=⟨⟨by omega,by omega⟩,e2,by omega⟩
          omega
        ·
         exact h7 (by omega) hne hle)
     refine⟨x', y', best', ?_,k2⟩
     rw[←k1]
     ((with_reducible repeat (first|refine Zl (by first|assumption|omega|rfl|exact B_pos (by omega)) ?_|refine Zk (by first|assumption|omega|decide|exact B_not (by omega)) ?_|refine Ze (by first|assumption) ?_|dsimp only));first|done|(with_reducible rfl)|simp (disch:=omega) only[w64]|(show False;done))
 have outer:∀(n i:Nat) (x y best:Int),i+n=max R k→k≤i→FndI m r k (fun i' c' => k≤i' ∧ k≤c' ∧ i' < i∧c' < W) x y best→∃x' y' best', Za.l3 m (W:Int) (k:Int) x y (i:Int) r out best=Za.l3 m (W:Int) (k:Int) x' y' (max R k:Nat) r out best' ∧ FndI m r k (fun i' c' => k≤i' ∧ k≤c' ∧ i' < max R k∧c' < W) x' y' best' := by
  intro n
  induction n with
  | zero =>
   intro i x y best hi _ hF
   have:i=max R k:=by omega
   subst this
   exact⟨x,y,best,rfl,hF⟩
  | succ n ih =>
   intro i x y best hi hki hF
   have hiR:i < R:=by omega
   obtain⟨x1,y1,b1,k1,k2⟩:=inner (W - k) k i x y best (by omega) (Nat.le_refl _) hki hiR (by
    have hZ:∀i' c' : Nat,(k≤i' ∧ k≤c' ∧ (i' < i∧c' < W∨i' = i∧c' < k))↔(k≤i' ∧ k≤c' ∧ i' < i∧c' < W):=fun i' c' => by omega
    rcases hF with ⟨h1,h2,h3⟩|⟨A,C,h1,h2,h3,h4,h5,h6,h7⟩
    ·
     exact .inl ⟨h1,h2,fun i' c' h=>h3 i' c' ((hZ i' c').1 h)⟩
    ·
     exact .inr ⟨A,C,h1,h2,(hZ A C).2 h3,h4,h5,fun i' c' h=>h6 i' c' ((hZ i' c').1 h),fun h=>h7 ((hZ k k).1 h)⟩)
   obtain⟨x2,y2,b2,k3,k4⟩:=ih (i+1) x1 y1 b1 (by omega) (by omega) k2
   refine⟨x2,y2,b2,?_,k4⟩
   rw[←k3,←k1,Za.l3_eq]
   ((with_reducible repeat (first|refine Zl (by first|assumption|omega|rfl|exact B_pos (by omega)) ?_|refine Zk (by first|assumption|omega|decide|exact B_not (by omega)) ?_|refine Ze (by first|assumption) ?_|dsimp only));first|done|(with_reducible rfl)|simp (disch:=omega) only[w64]|(show False;done))
 obtain⟨x,y,best,k1,k2⟩:=outer (max R k - k) k (-1) (-1) m (by omega) (Nat.le_refl _) (.inl ⟨rfl,rfl,fun i' c' h=>by omega⟩)
 refine⟨x,y,best,k1,?_⟩
 have hZ:∀i' c' : Nat,(k≤i' ∧ i' < R∧k≤c' ∧ c' < W)↔(k≤i' ∧ k≤c' ∧ i' < max R k∧c' < W):=fun i' c' => by omega
 rcases k2 with ⟨h1,h2,h3⟩|⟨A,C,h1,h2,h3,h4,h5,h6,h7⟩
 ·
  exact .inl ⟨h1,h2,fun i' c' h=>h3 i' c' ((hZ i' c').1 h)⟩
 ·
  exact .inr ⟨A,C,h1,h2,(hZ A C).2 h3,h4,h5,fun i' c' h=>h6 i' c' ((hZ i' c').1 h),fun h=>h7 ((hZ k k).1 h)⟩
end
end Go.Proofs.YtdamfbighdkcbaaGreat.V
namespace Go.Proofs.YtdamfbighdkcbaaGreat.V
open Go.RowKit Go.Proofs.YtdamfbighdkcbaaGreat.D Go.Proofs.YtdamfbighdkcbaaGreat.P
def dgr (W i:Nat) (n:Int):List Int:=(List.replicate W 0).set i n
theorem ZkB (W i:Nat) (n:Int):(dgr W i n).length=W:=by rw[dgr,List.length_set,List.length_replicate]
theorem ZiS {W i:Nat} {n:Int} (hi:i < W) (c:Nat):rd (dgr W i n) (c:Int)=if c=i then n else 0:=by
 unfold dgr
 by_cases e:c=i
 ·
  subst e;rw[if_pos rfl,Zbd (by rw[List.length_replicate];exact hi)]
 ·
  rw[if_neg e,Zbk e,ZbD]
def Lm (W:Nat) (out:List Int) (r:List (List Int)) (k:Nat):List (List Int):=(List.range k).map (fun i=>dgr W i (rd out (i:Int)))++r.drop k
theorem Zcp {W:Nat} {out:List Int} {r:List (List Int)} {k:Nat} (hk:k≤r.length):(Lm W out r k).length=r.length:=by
 rw[Lm,List.length_append,List.length_map,List.length_range,List.length_drop];omega
theorem Zc5 {W:Nat} {out:List Int} {r:List (List Int)} {k:Nat} (hk:k≤r.length) {i:Nat} (hi:i < r.length):row (Lm W out r k) (i:Int)=if i < k then dgr W i (rd out (i:Int))else row r (i:Int):=by
 have hl:=Zcp (W:=W) (out:=out) hk
 rw[Zbf (by omega)]
 unfold Lm
 by_cases h:i < k
 ·
  rw[if_pos h,List.getElem_append_left (by simpa using h)];simp
 ·
  rw[if_neg h,List.getElem_append_right (by simp;omega),Zbf hi]
  simp only[List.getElem_drop,List.length_map,List.length_range]
  congr 1
  omega
theorem Zj8 {W:Nat} {out:List Int} {r:List (List Int)} {k i:Nat} (hi:k≤i) (x:List Int):Lm W out (r.set i x) k=(Lm W out r k).set i x:=by
 unfold Lm
 rw[List.set_append_right _ _ (by simp;omega),List.length_map,List.length_range,List.drop_set,if_neg (by omega)]
structure OutOk (m:Int) (W k:Nat) (out:List Int):Prop where
 len:out.length=k
 ent:∀n∈out,0 < n∧n < m∧n∣m
theorem Lm_ok {m:Int} (m0:0 < m) {W:Nat} {out:List Int} {r:List (List Int)} {k:Nat} (hk:k≤r.length) (ok:Rok m W r) (ho:OutOk m W k out):Rok m W (Lm W out r k):=fun i hi=>by
 rw[Zcp hk]at hi
 rw[Zc5 hk hi]
 by_cases h:i < k
 ·
  rw[if_pos h]
  have:=ho.len
  have he:=ho.ent _ (ZcD (i:=(i:Int)) (xs:=out) (by omega) (by omega))
  refine⟨ZkB ..,Zby fun z hz => ?_⟩
  rcases List.mem_or_eq_of_mem_set hz with q|q
  ·
   rw[List.mem_replicate]at q;omega
  ·
   omega
 ·
  rw[if_neg h];exact ok i hi
theorem Zmv {m:Int} (m0:0 < m) {W:Nat} {out:List Int} {r:List (List Int)} {k:Nat} (hk:k≤r.length) (hkW:k≤W) {f:List Int→List Int} {T S:Vc→Vc} (h:Aut m W T S) (hd:∀i:Nat,i < k→∀n j,j < W→m∣T (V (dgr W i n)) j - V (dgr W i n) j)
  (hf:∀i:Nat,k≤i→i < r.length→∀j,j < W→m∣T (V (row r (i:Int))) j - V (f (row r (i:Int))) j):Eqd m W (Mx m W (Lm W out r k)) (Mx m W (Lm W out (r.map f) k)):=by
 refine Zj9 m0 h (by rw[Zcp (by rw[List.length_map];exact hk),Zcp hk,List.length_map]) fun i hi j hj => ?_
 rw[Zcp hk]at hi
 rw[Zc5 hk hi,Zc5 (by rw[List.length_map];exact hk) (by rw[List.length_map];exact hi)]
 by_cases q:i < k
 ·
  rw[if_pos q,if_pos q];exact hd i q _ j hj
 ·
  rw[if_neg q,if_neg q,ZbB _ _ hi];exact hf i (by omega) hi j hj
def swk (k y:Nat) (x:List Int):List Int:=(x.set k (rd x (y:Int))).set y (rd x (k:Int))
theorem ZnA (k y:Nat) (x:List Int):(swk k y x).length=x.length:=by rw[swk,List.length_set,List.length_set]
theorem Zlx {k y:Nat} {x:List Int} (hk:k < x.length) (hy:y < x.length) (i:Nat):rd (swk k y x) (i:Int)=if i=y then rd x (k:Int)else if i=k then rd x (y:Int)else rd x (i:Int):=by
 unfold swk
 by_cases e:i=y
 ·
  subst e;rw[if_pos rfl,Zbd (by rw[List.length_set];exact hy)]
 ·
  rw[if_neg e,Zbk e]
  by_cases e2:i=k
  ·
   subst e2;rw[if_pos rfl,Zbd hk]
  ·
   rw[if_neg e2,Zbk e2]
theorem Zn1 {m:Int} {k y:Nat} {x:List Int} (h:AllIn m x) (hk:k < x.length) (hy:y < x.length):AllIn m (swk k y x):=Zby fun z hz=>by
 rcases List.mem_or_eq_of_mem_set hz with q|q
 ·
  rcases List.mem_or_eq_of_mem_set q with q|q
  ·
   exact h.mem q
  ·
   rw[q];exact h y (by omega) (by omega)
 ·
  rw[q];exact h k (by omega) (by omega)
theorem Zjk (k:Nat) (x:List Int):swk k k x=x:=by
 unfold swk
 rw[List.set_set]
 by_cases h:k < x.length
 ·
  rw[Zbi h];exact List.set_getElem_self h
 ·
  exact List.set_eq_of_length_le (by omega)
def cole (m:Int) (k c:Nat) (t:Int) (x:List Int):List Int:=x.set c ((rd x (c:Int) - t*rd x (k:Int))%m)
theorem ZlQ (m:Int) (k c:Nat) (t:Int) (x:List Int):(cole m k c t x).length=x.length:=by rw[cole,List.length_set]
theorem Zge {m:Int} {k c:Nat} {t:Int} {x:List Int} (hc:c < x.length) (i:Nat):rd (cole m k c t x) (i:Int)=if i=c then(rd x (c:Int) - t*rd x (k:Int))%m else rd x (i:Int):=by
 unfold cole
 by_cases e:i=c
 ·
  subst e;rw[if_pos rfl,Zbd hc]
 ·
  rw[if_neg e,Zbk e]
theorem ZmZ {m:Int} (m0:0 < m) (k c:Nat) (t:Int) {x:List Int} (h:AllIn m x):AllIn m (cole m k c t x):=Zby fun z hz=>by
 rcases List.mem_or_eq_of_mem_set hz with q|q
 ·
  exact h.mem q
 ·
  rw[q];exact⟨Int.emod_nonneg _ (by omega),Int.emod_lt_of_pos _ m0⟩
section
variable {m:Int} {W R k:Nat} {out:List Int}
theorem ZkC (hW:W≤1000) (hR:R≤100000) {r:List (List Int)} (hl:r.length=R) (ok:Rok m W r) (hk:k < W) {y:Nat} (hy:y < W) (best:Int):Za.l6 m (W:Int) (k:Int) (y:Int) (R:Int) 0 r out best=Za.l7 m (W:Int) (k:Int) 1 (r.map (swk k y)) out best:=by
 have loop:=up R (fun i=>Za.l6 m (W:Int) (k:Int) (y:Int) (R:Int) (i:Int) (updR (swk k y) r i) out best) (fun i hi=>by
  obtain⟨li,ai⟩:=ok i (by omega)
  have ul:=Zei (swk k y) r i
  have ur:=Ze4 (swk k y) r (j:=i) (by omega)
  have tk:T (updR (swk k y) r i) (i:Int) (k:Int)=rd (row r (i:Int)) (k:Int):=by rw[Tn,ur]
  have ty:T (updR (swk k y) r i) (i:Int) (y:Int)=rd (row r (i:Int)) (y:Int):=by rw[Tn,ur]
  have l1:((row r (i:Int)).set k (rd (row r (i:Int)) (y:Int))).length=W:=by rw[List.length_set];exact li
  rw[Za.l6_eq,wn (j:=i) (by omega),ur,tk,ty,←Zej _ _ (show i < r.length by omega),Int.toNat_natCast,Int.toNat_natCast,Int.toNat_natCast]
  show _=Za.l6 m (W:Int) (k:Int) (y:Int) (R:Int) ((i+1:Nat):Int) ((updR (swk k y) r i).set i (((row r (i:Int)).set k (rd (row r (i:Int)) (y:Int))).set y (rd (row r (i:Int)) (k:Int)))) out best
  ((with_reducible repeat (first|refine Zl (by first|assumption|omega|rfl|exact B_pos (by omega)) ?_|refine Zk (by first|assumption|omega|decide|exact B_not (by omega)) ?_|refine Ze (by first|assumption) ?_|dsimp only));first|done|(with_reducible rfl)|simp (disch:=omega) only[w64]|(show False;done)))
 rw[Zek,show updR (swk k y) r R=r.map (swk k y)by rw[←hl];exact Ze3 _ _]at loop
 have loop:Za.l6 m (W:Int) (k:Int) (y:Int) (R:Int) 0 r out best=_:=loop
 rw[loop,Za.l6_eq]
 ((with_reducible repeat (first|refine Zl (by first|assumption|omega|rfl|exact B_pos (by omega)) ?_|refine Zk (by first|assumption|omega|decide|exact B_not (by omega)) ?_|refine Ze (by first|assumption) ?_|dsimp only));first|done|(with_reducible rfl)|simp (disch:=omega) only[w64]|(show False;done))
theorem ZkH (m2:2≤m) (m12:m≤12) (hW:W≤1000) (hR:R≤100000) {r:List (List Int)} (hl:r.length=R) (ok:Rok m W r) (hk:k < W) (hkR:k < R) {best x:Int} (hx:x=rd (row r (k:Int)) (k:Int)) (xne:¬ x=0) (hb:best=((Int.gcd x m:Nat):Int)) :
  ∃u:Int,(1≤u∧u≤12)∧Int.gcd u m=1∧x*u%m=best∧(x=best→u=1)∧Za.l7 m (W:Int) (k:Int) 1 r out best=Za.l8 m (W:Int) (k:Int) u (W:Int) 0 r out best:=by
 obtain⟨lk,ak⟩:=ok k (by omega)
 obtain⟨v0,v1⟩:=ok.bd (i:=k) (k:=k) (by omega) hk
 rw[←hx]at v0 v1
 have tx:T r (k:Int) (k:Int)=x:=hx.symm
 have hset:r.set (k:Int).toNat (row r (k:Int))=r:=by rw[Int.toNat_natCast];exact Zbe r k
 have bx:best≤x:=by rw[hb];exact Int.le_of_dvd (by omega) (Int.gcd_dvd_left ..)
 have b0:0 < best:=by rw[hb];exact_mod_cast Int.gcd_pos_of_ne_zero_left m xne
 obtain⟨M,rfl⟩:=Int.eq_ofNat_of_zero_le (show 0≤m by omega)
 obtain⟨x', hx'⟩:=Int.eq_ofNat_of_zero_le v0
 have tab:=Zjq M (by omega) x' (by omega) (by omega)
 obtain⟨u0,hu0,hu⟩:=List.any_eq_true.1 tab
 have hu0:=List.mem_range.1 hu0
 rw[Bool.and_eq_true,Bool.and_eq_true,decide_eq_true_iff,decide_eq_true_iff,decide_eq_true_iff]at hu
 obtain⟨⟨u1,u2⟩,u3⟩:=hu
 have good0:x*(u0:Int)%(M:Int)=best:=by
  rw[hx', hb,hx']
  have e:((x' : Int)*(u0:Int))%(M:Int)=((x' * u0%M:Nat):Int):=by push_cast;rfl
  rw[e,u3]
  have:Nat.gcd x' M < M:=by
   have:=Nat.le_of_dvd (show 0 < x' by omega) (Nat.gcd_dvd_left x' M)
   omega
  rw[Nat.mod_eq_of_lt this]
  rfl
 have me:¬ (M:Int)=0:=by omega
 have key:∀(n u:Nat),u+n=u0→1≤u→(x=best→u=1)→∃v:Int,(1≤v∧v≤12)∧Int.gcd v (M:Int)=1∧x*v%(M:Int)=best∧(x=best→v=1)∧Za.l7 (M:Int) (W:Int) (k:Int) (u:Int) r out best=Za.l8 (M:Int) (W:Int) (k:Int) v (W:Int) 0 r out best:=by
  intro n
  induction n with
  | zero =>
   intro u hu h1 hq
   have:u=u0:=by omega
   subst this
   refine⟨(u:Int),⟨by omega,by omega⟩,u2,good0,fun h=>by have:=hq h;omega,?_⟩
   have hG:=gcd_ (a:=(u:Int)) (b:=(M:Int)) (by omega) (by omega)
   rw[show Int.gcd (u:Int) (M:Int)=1 from u2]at hG
   have hG:Za2.f (u:Int) (M:Int)=some 1:=hG
   have xu:0≤x*(u:Int)∧x*(u:Int)≤12*12:=⟨Int.mul_nonneg v0 (by omega),Int.mul_le_mul (by omega) (by omega) (by omega) (by omega)⟩
   have w:Int.tmod (wrapI (x*(u:Int))) (M:Int)=best:=by rw[w64 (by omega) (by omega),Zdt (by omega),good0]
   have o1:(1:Int)=1:=rfl
   rw[Za.l7_eq,tx,w]
   simp only[hset,if_true]
   rw[lk]
   ((with_reducible repeat (first|refine Zl (by first|assumption|omega|rfl|exact B_pos (by omega)) ?_|refine Zk (by first|assumption|omega|decide|exact B_not (by omega)) ?_|refine Ze (by first|assumption) ?_|dsimp only));first|done|(with_reducible rfl)|simp (disch:=omega) only[w64]|(show False;done))
  | succ n ih =>
   intro u hu h1 hq
   have hG:=gcd_ (a:=(u:Int)) (b:=(M:Int)) (by omega) (by omega)
   have xu:0≤x*(u:Int)∧x*(u:Int)≤12*12:=⟨Int.mul_nonneg v0 (by omega),Int.mul_le_mul (by omega) (by omega) (by omega) (by omega)⟩
   have w:Int.tmod (wrapI (x*(u:Int))) (M:Int)=x*(u:Int)%(M:Int):=by rw[w64 (by omega) (by omega),Zdt (by omega)]
   by_cases hg:((Int.gcd (u:Int) (M:Int):Nat):Int)=1
   ·
    rw[hg]at hG
    have o1:(1:Int)=1:=rfl
    by_cases hxu:x*(u:Int)%(M:Int)=best
    ·
     refine⟨(u:Int),⟨by omega,by omega⟩,by omega,hxu,fun h=>by have:=hq h;omega,?_⟩
     rw[Za.l7_eq,tx,w]
     simp only[hset]
     rw[lk]
     ((with_reducible repeat (first|refine Zl (by first|assumption|omega|rfl|exact B_pos (by omega)) ?_|refine Zk (by first|assumption|omega|decide|exact B_not (by omega)) ?_|refine Ze (by first|assumption) ?_|dsimp only));first|done|(with_reducible rfl)|simp (disch:=omega) only[w64]|(show False;done))
    ·
     obtain⟨v,k1,k2,k3,k4,k5⟩:=ih (u+1) (by omega) (by omega) (fun h=>by
      exfalso
      have hu1:=hq h
      subst hu1
      apply hxu
      rw[h,Int.natCast_one,Int.mul_one]
      exact Int.emod_eq_of_lt (by omega) (by omega))
     refine⟨v,k1,k2,k3,k4,?_⟩
     rw[←k5,Za.l7_eq,tx,w,wn (j:=u) (by omega)]
     simp only[hset]
     ((with_reducible repeat (first|refine Zl (by first|assumption|omega|rfl|exact B_pos (by omega)) ?_|refine Zk (by first|assumption|omega|decide|exact B_not (by omega)) ?_|refine Ze (by first|assumption) ?_|dsimp only));first|done|(with_reducible rfl)|simp (disch:=omega) only[w64]|(show False;done))
   ·
    obtain⟨v,k1,k2,k3,k4,k5⟩:=ih (u+1) (by omega) (by omega) (fun h=>by
     exfalso
     have hu1:=hq h
     subst hu1
     apply hg
     simp)
    refine⟨v,k1,k2,k3,k4,?_⟩
    rw[←k5,Za.l7_eq,wn (j:=u) (by omega)]
    ((with_reducible repeat (first|refine Zl (by first|assumption|omega|rfl|exact B_pos (by omega)) ?_|refine Zk (by first|assumption|omega|decide|exact B_not (by omega)) ?_|refine Ze (by first|assumption) ?_|dsimp only));first|done|(with_reducible rfl)|simp (disch:=omega) only[w64]|(show False;done))
 exact key (u0 - 1) 1 (by omega) (Nat.le_refl _) fun _=>rfl
theorem ZjH (m2:2≤m) (m12:m≤12) (hW:W≤1000) (hR:R≤100000) {r:List (List Int)} (hl:r.length=R) (ok:Rok m W r) (hk:k < W) (hkR:k < R) {u:Int} (u1:1≤u) (u2:u≤12) (best:Int) :
  Za.l8 m (W:Int) (k:Int) u (W:Int) 0 r out best=Za.l9 m (W:Int) (k:Int) true ((k+1:Nat):Int) (r.set k (mix m u (row r (k:Int)) 0 (row r (k:Int)))) out best:=by
 obtain⟨lk,ak⟩:=ok k (by omega)
 obtain⟨x,hx⟩:∃x,x=row r (k:Int):=⟨_,rfl⟩
 obtain⟨F,hF⟩:∃F,F=mix m u x 0 x:=⟨_,rfl⟩
 rw[←hx]at lk ak ⊢
 rw[←hF]
 have Fl:F.length=x.length:=by rw[hF,Za4]
 have me:¬ m=0:=by omega
 have inner:=up W (fun c=>Za.l8 m (W:Int) (k:Int) u (W:Int) (c:Int) (r.set k (upd1 F x c)) out best) (fun c hc=>by
  obtain⟨v0,v1⟩:=ak (c:Int) (by omega) (by omega)
  have sl:(r.set k (upd1 F x c)).length=R:=by rw[List.length_set];omega
  have sr:row (r.set k (upd1 F x c)) (k:Int)=upd1 F x c:=ZaD (by omega)
  have l1:=Zeh Fl c
  have tv:T (r.set k (upd1 F x c)) (k:Int) (c:Int)=rd x (c:Int):=by rw[Tn,sr,ZfG Fl (by omega)]
  have xu:0≤rd x (c:Int)*u∧rd x (c:Int)*u≤12*12:=⟨Int.mul_nonneg v0 (by omega),Int.mul_le_mul (by omega) (by omega) (by omega) (by omega)⟩
  have w:Int.tmod (wrapI (rd x (c:Int)*u)) m=rd F (c:Int):=by rw[w64 (by omega) (by omega),Zdt (by omega),hF,Zbw (by omega),Int.mul_comm,Int.zero_mul,Int.add_zero]
  rw[Za.l8_eq,wn (j:=c) (by omega),tv,w,sr,Int.toNat_natCast,Int.toNat_natCast,Zdv Fl (by omega),List.set_set]
  ((with_reducible repeat (first|refine Zl (by first|assumption|omega|rfl|exact B_pos (by omega)) ?_|refine Zk (by first|assumption|omega|decide|exact B_not (by omega)) ?_|refine Ze (by first|assumption) ?_|dsimp only));first|done|(with_reducible rfl)|simp (disch:=omega) only[w64]|(show False;done)))
 rw[Zdw,show upd1 F x W=F by rw[←lk];exact Zeg Fl,show r.set k x=r by rw[hx];exact Zbe r k]at inner
 have inner:Za.l8 m (W:Int) (k:Int) u (W:Int) 0 r out best=_:=inner
 rw[inner,Za.l8_eq,wn (j:=k) (by omega)]
 ((with_reducible repeat (first|refine Zl (by first|assumption|omega|rfl|exact B_pos (by omega)) ?_|refine Zk (by first|assumption|omega|decide|exact B_not (by omega)) ?_|refine Ze (by first|assumption) ?_|dsimp only));first|done|(with_reducible rfl)|simp (disch:=omega) only[w64]|(show False;done))
structure RI (m:Int) (W R k:Nat) (out:List Int) (r0 r:List (List Int)):Prop where
 len:r.length=R
 ok:Rok m W r
 eqd:Eqd m W (Mx m W (Lm W out r0 k)) (Mx m W (Lm W out r k))
 zer:(∀i c:Nat,k≤i→i < R→c < k→rd (row r0 (i:Int)) (c:Int)=0)→∀i c:Nat,k≤i→i < R→c < k→rd (row r (i:Int)) (c:Int)=0
 dv:∀d:Int,d∣m→(∀i c:Nat,k≤i→i < R→c < W→d∣rd (row r0 (i:Int)) (c:Int))→∀i c:Nat,k≤i→i < R→c < W→d∣rd (row r (i:Int)) (c:Int)
theorem RI.refl {r:List (List Int)} (hl:r.length=R) (ok:Rok m W r):RI m W R k out r r:=⟨hl,ok,fun _=>rfl,fun h=>h,fun _ _ h=>h⟩
theorem RI.trans {r0 r1 r2:List (List Int)} (h:RI m W R k out r0 r1) (h' : RI m W R k out r1 r2):RI m W R k out r0 r2:=⟨h'.len,h'.ok,h.eqd.trans h'.eqd,fun z=>h'.zer (h.zer z),fun d hd z=>h'.dv d hd (h.dv d hd z)⟩
theorem ZiU {d a m:Int} (hd:d∣m) (h:d∣a):d∣a%m:=by
 have e:=Int.mul_ediv_add_emod a m
 have:a%m=a - m*(a / m):=by omega
 rw[this]
 exact Int.dvd_sub h (Int.dvd_mul_of_dvd_left hd)
theorem ZmL {r:List (List Int)} (m0:0 < m) (hl:r.length=R) (ok:Rok m W r) {i:Nat} (hki:k≤i) (hi:i < R) {j:Nat} (hkj:k≤j) (hj:j < R) (p q:Int) (he:Eqd m W (Mx m W (Lm W out r k)) (Mx m W ((Lm W out r k).set i (mix m p (row r (i:Int)) q (row r (j:Int)))))):RI m W R k out r (r.set i (mix m p (row r (i:Int)) q (row r (j:Int)))):=by
 obtain⟨li,ai⟩:=ok i (by omega)
 have hr:∀n c:Nat,c < W→rd (row (r.set i (mix m p (row r (i:Int)) q (row r (j:Int)))) (n:Int)) (c:Int)=if n=i then(p*rd (row r (i:Int)) (c:Int)+q*rd (row r (j:Int)) (c:Int))%m else rd (row r (n:Int)) (c:Int):=fun n c hc=>by
  by_cases e:n=i
  ·
   subst e;rw[if_pos rfl,ZaD (by omega),Zbw (by omega)]
  ·
   rw[if_neg e,Za5 e]
 refine⟨by rw[List.length_set];exact hl,ok.set ⟨by rw[Za4];exact li,Zb2 m0⟩,by rw[Zj8 hki];exact he,fun z n c h1 h2 h3 => ?_,fun d hd z n c h1 h2 h3 => ?_⟩
 ·
  by_cases hcW:c < W
  ·
   rw[hr n c hcW]
   split
   ·
    rw[z i c hki hi h3,z j c hkj hj h3,Int.mul_zero,Int.mul_zero];rfl
   ·
    exact z n c h1 h2 h3
  ·
   have hn:=(ok.set (j:=i) (x:=mix m p (row r (i:Int)) q (row r (j:Int))) ⟨by rw[Za4];exact li,Zb2 m0⟩) n (by rw[List.length_set];omega)
   rw[ZcE,List.getD_eq_getElem?_getD,List.getElem?_eq_none (by omega)];rfl
 ·
  rw[hr n c h3]
  split
  ·
   exact ZiU hd (Int.dvd_add (Int.dvd_mul_of_dvd_right (z i c hki hi h3)) (Int.dvd_mul_of_dvd_right (z j c hkj hj h3)))
  ·
   exact z n c h1 h2 h3
end
end Go.Proofs.YtdamfbighdkcbaaGreat.V
namespace Go.Proofs.YtdamfbighdkcbaaGreat.V
open Go.RowKit Go.Proofs.YtdamfbighdkcbaaGreat.D Go.Proofs.YtdamfbighdkcbaaGreat.P
section
variable {m:Int} {W R k:Nat} {out:List Int}
theorem ZmK (m0:0 < m) {r:List (List Int)} (hl:r.length=R) (ok:Rok m W r) (ho:OutOk m W k out) (hkR:k≤R) {i j:Nat} (hki:k≤i) (hi:i < R) (hkj:k≤j) (hj:j < R) (hij:i≠j) (y:Int):RI m W R k out r (r.set i (mix m 1 (row r (i:Int)) y (row r (j:Int)))):=by
 refine ZmL m0 hl ok hki hi hkj hj 1 y ?_
 have h:=Zll m0 (Lm_ok m0 (by omega) ok ho) (i:=i) (j:=j) (by rw[Zcp (by omega)];omega) (by rw[Zcp (by omega)];omega) hij y
 rwa[Zc5 (by omega) (by omega),if_neg (by omega),Zc5 (by omega) (by omega),if_neg (by omega)]at h
theorem Znw (m0:0 < m) {r:List (List Int)} (hl:r.length=R) (ok:Rok m W r) (ho:OutOk m W k out) (hkR:k≤R) {i:Nat} (hki:k≤i) (hi:i < R) {u v:Int} (huv:m∣u*v - 1):RI m W R k out r (r.set i (mix m u (row r (i:Int)) 0 (row r (i:Int)))):=by
 refine ZmL m0 hl ok hki hi hki hi u 0 ?_
 have h:=ZgG m0 (Lm_ok m0 (by omega) ok ho) (i:=i) (by rw[Zcp (by omega)];omega) huv (row r (i:Int))
 rwa[Zc5 (by omega) (by omega),if_neg (by omega)]at h
theorem ZkA (m0:0 < m) {k a b:Nat} (hak:k≤a) (hbk:k≤b) {p q s t:Int} {i:Nat} (hi:i < k) (hW:k≤W) (n:Int) (j:Nat):m∣pairT a b p q s t (V (dgr W i n)) j - V (dgr W i n) j:=by
 refine Zaw ?_
 have z:∀c:Nat,k≤c→V (dgr W i n) c=0:=fun c hc=>by rw[V,ZiS (by omega),if_neg (by omega)]
 unfold pairT
 by_cases e:j=a
 ·
  rw[if_pos e,z a hak,z b hbk,e,z a hak,Int.mul_zero,Int.mul_zero];rfl
 ·
  rw[if_neg e]
  by_cases e2:j=b
  ·
   rw[if_pos e2,z a hak,z b hbk,e2,z b hbk,Int.mul_zero,Int.mul_zero];rfl
  ·
   rw[if_neg e2]
theorem Znv {r:List (List Int)} (hl:r.length=R) (ok:Rok m W r) (hkR:k≤R) {i j:Nat} (hki:k≤i) (hi:i < R) (hkj:k≤j) (hj:j < R):RI m W R k out r ((r.set i (row r (j:Int))).set j (row r (i:Int))):=by
 have e:=Zjf (m:=m) (W:=W) (r:=Lm W out r k) (i:=i) (j:=j) (by rw[Zcp (by omega)];omega) (by rw[Zcp (by omega)];omega)
 rw[Zc5 (by omega) (by omega),if_neg (by omega),Zc5 (by omega) (by omega),if_neg (by omega)]at e
 have hr:∀n:Nat,n < R→row ((r.set i (row r (j:Int))).set j (row r (i:Int))) (n:Int)=if n=j then row r (i:Int)else if n=i then row r (j:Int)else row r (n:Int):=fun n hn=>by
  by_cases e:n=j
  ·
   subst e;rw[if_pos rfl,ZaD (by rw[List.length_set];omega)]
  ·
   rw[if_neg e,Za5 e]
   by_cases e2:n=i
   ·
    subst e2;rw[if_pos rfl,ZaD (by omega)]
   ·
    rw[if_neg e2,Za5 e2]
 refine⟨by rw[List.length_set,List.length_set];exact hl,(ok.set (ok j (by omega))).set (ok i (by omega)),by rw[Zj8 hkj,Zj8 hki];exact e,fun z n c h1 h2 h3 => ?_,fun d hd z n c h1 h2 h3 => ?_⟩
 ·
  rw[hr n h2]
  split
  ·
   exact z i c hki hi h3
  ·
   split
   ·
    exact z j c hkj hj h3
   ·
    exact z n c h1 h2 h3
 ·
  rw[hr n h2]
  split
  ·
   exact z i c hki hi h3
  ·
   split
   ·
    exact z j c hkj hj h3
   ·
    exact z n c h1 h2 h3
theorem ZnY (m0:0 < m) {r:List (List Int)} (hl:r.length=R) (ok:Rok m W r) (hkR:k≤R) (hk:k < W) {y:Nat} (hky:k≤y) (hy:y < W):RI m W R k out r (r.map (swk k y)):=by
 have ok' : Rok m W (r.map (swk k y)):=fun i hi=>by
  rw[List.length_map]at hi
  obtain⟨a1,a2⟩:=ok i hi
  rw[ZbB _ _ hi]
  exact⟨by rw[ZnA];exact a1,Zn1 a2 (by omega) (by omega)⟩
 have hr:∀n c:Nat,n < R→rd (row (r.map (swk k y)) (n:Int)) (c:Int)=if c=y then rd (row r (n:Int)) (k:Int)else if c=k then rd (row r (n:Int)) (y:Int)else rd (row r (n:Int)) (c:Int):=fun n c hn=>by
  rw[ZbB _ _ (by omega),Zlx (by have:=(ok n (by omega)).1;omega) (by have:=(ok n (by omega)).1;omega)]
 refine⟨by rw[List.length_map];exact hl,ok', ?_,fun z n c h1 h2 h3 => ?_,fun d hd z n c h1 h2 h3 => ?_⟩
 ·
  by_cases e:k=y
  ·
   subst e
   rw[show r.map (swk k k)=r by rw[show swk k k=id from funext fun x=>Zjk k x,List.map_id]]
   exact fun _=>rfl
  ·
   refine Zmv m0 (by omega) (by omega) (Zeb (r:=W) (a:=k) (b:=y) (p:=0) (q:=1) (s:=1) (t:=0) (p' := 0) (q' := 1) (s' := 1) (t' := 0) e hk hy rfl rfl rfl rfl rfl rfl rfl rfl) (fun i hi n j hj=>ZkA m0 (k:=k) (Nat.le_refl _) hky hi (by omega) n j) fun i h1 h2 j hj=>Zaw ?_
   have a1:=(ok i h2).1
   show pairT k y 0 1 1 0 (V (row r (i:Int))) j=rd (swk k y (row r (i:Int))) (j:Int)
   rw[Zlx (by omega) (by omega),pairT]
   by_cases q:j=k
   ·
    rw[if_pos q,if_neg (by omega),if_pos q]
    show 0*rd _ _+1*rd _ (y:Int)=_
    omega
   ·
    rw[if_neg q]
    by_cases q2:j=y
    ·
     rw[if_pos q2,if_pos q2]
     show 1*rd _ (k:Int)+0*rd _ _=_
     omega
    ·
     rw[if_neg q2,if_neg q2,if_neg q];rfl
 ·
  rw[hr n c h2,if_neg (by omega),if_neg (by omega)];exact z n c h1 h2 h3
 ·
  rw[hr n c h2]
  split
  ·
   exact z n k h1 h2 hk
  ·
   split
   ·
    exact z n y h1 h2 hy
   ·
    exact z n c h1 h2 h3
theorem Zm0 (m0:0 < m) {r:List (List Int)} (ok:Rok m W r) (c:Nat) (t:Int):Rok m W (r.map (cole m k c t)):=fun i hi=>by
 rw[List.length_map]at hi
 obtain⟨a1,a2⟩:=ok i hi
 rw[ZbB _ _ hi]
 exact⟨by rw[ZlQ];exact a1,ZmZ m0 _ _ _ a2⟩
theorem Znu (m0:0 < m) {r:List (List Int)} (hl:r.length=R) (ok:Rok m W r) (hkR:k≤R) {c:Nat} (hk:k < c) (hc:c < W) (t:Int):RI m W R k out r (r.map (cole m k c t)):=by
 have hr:∀n j:Nat,n < R→rd (row (r.map (cole m k c t)) (n:Int)) (j:Int)=if j=c then(rd (row r (n:Int)) (c:Int) - t*rd (row r (n:Int)) (k:Int))%m else rd (row r (n:Int)) (j:Int):=fun n j hn=>by
  rw[ZbB _ _ (by omega),Zge (by have:=(ok n (by omega)).1;omega)]
 refine⟨by rw[List.length_map];exact hl,Zm0 m0 ok c t,?_,fun z n j h1 h2 h3 => ?_,fun d hd z n j h1 h2 h3 => ?_⟩
 ·
  refine Zmv m0 (by omega) (by omega) (Zeb (r:=W) (a:=k) (b:=c) (p:=1) (q:=0) (s := -t) (t:=1) (p' := 1) (q' := 0) (s' := t) (t' := 1) (by omega) (by omega) hc (by omega) (by omega) (by omega) (by omega) (by omega) (by omega) (by omega) (by omega)) (fun i hi n j hj=>ZkA m0 (k:=k) (Nat.le_refl _) (by omega) hi (by omega) n j) fun i h1 h2 j hj => ?_
  have a1:=(ok i h2).1
  show m∣pairT k c 1 0 (-t) 1 (V (row r (i:Int))) j - rd (cole m k c t (row r (i:Int))) (j:Int)
  rw[Zge (by omega),pairT]
  by_cases q:j=k
  ·
   rw[if_pos q,if_neg (by omega),q]
   refine Zaw ?_
   show 1*rd _ (k:Int)+0*rd _ _=_
   omega
  ·
   rw[if_neg q]
   by_cases q2:j=c
   ·
    rw[if_pos q2,if_pos q2]
    show m ∣ -t*rd (row r (i:Int)) (k:Int)+1*rd (row r (i:Int)) (c:Int) - _
    rw[show -t*rd (row r (i:Int)) (k:Int)+1*rd (row r (i:Int)) (c:Int)=rd (row r (i:Int)) (c:Int) - t*rd (row r (i:Int)) (k:Int)by rw[Int.neg_mul];omega]
    exact Int.dvd_self_sub_emod
   ·
    rw[if_neg q2,if_neg q2];exact Zaw rfl
 ·
  rw[hr n j h2,if_neg (by omega)];exact z n j h1 h2 h3
 ·
  rw[hr n j h2]
  split
  ·
   exact ZiU hd (Int.dvd_sub (z n c h1 h2 hc) (Int.dvd_mul_of_dvd_right (z n k h1 h2 (by omega))))
  ·
   exact z n j h1 h2 h3
theorem ZkF (m2:2≤m) (m12:m≤12) (hW:W≤1000) (hR:R≤100000) (hk:k < W) (ho:OutOk m W k out) {best:Int} (b0:0 < best) (bm:best < m):∀(n i:Nat) (r:List (List Int)) (flag:Bool),i+n=R→k < i→r.length=R→Rok m W r→rd (row r (k:Int)) (k:Int)=best →
  ∃r' flag', Za.l9 m (W:Int) (k:Int) flag (i:Int) r out best=Za.l11 m (W:Int) (k:Int) flag' ((k+1:Nat):Int) r' out best∧RI m W R k out r r' ∧ row r' (k:Int)=row r (k:Int)∧(∀j:Nat,j < i→row r' (j:Int)=row r (j:Int))∧(∀j:Nat,i≤j→j < R→rd (row r' (j:Int)) (k:Int)=rd (row r (j:Int)) (k:Int)%best) ∧
   (flag' = true↔flag=true∧∀j:Nat,i≤j→j < R→rd (row r' (j:Int)) (k:Int)=0)∧((∀j:Nat,i≤j→j < R→rd (row r (j:Int)) (k:Int)=0)→r' = r):=by
 intro n
 induction n with
 | zero =>
  intro i r flag hi hki hl ok hb
  refine⟨r,flag,?_,.refl hl ok,rfl,fun j _=>rfl,fun j h1 h2=>by omega,⟨fun h=>⟨h,fun j h1 h2=>by omega⟩,fun h=>h.1⟩,fun _=>rfl⟩
  rw[Za.l9_eq,wn (j:=k) (by omega)]
  ((with_reducible repeat (first|refine Zl (by first|assumption|omega|rfl|exact B_pos (by omega)) ?_|refine Zk (by first|assumption|omega|decide|exact B_not (by omega)) ?_|refine Ze (by first|assumption) ?_|dsimp only));first|done|(with_reducible rfl)|simp (disch:=omega) only[w64]|(show False;done))
 | succ n ih =>
  intro i r flag hi hki hl ok hb
  obtain⟨li,ai⟩:=ok i (by omega)
  obtain⟨lk,ak⟩:=ok k (by omega)
  obtain⟨v0,v1⟩:=ok.bd (i:=i) (k:=k) (by omega) hk
  obtain⟨x,hx⟩:∃x,x=row r (i:Int):=⟨_,rfl⟩
  obtain⟨f,hf⟩:∃f,f=row r (k:Int):=⟨_,rfl⟩
  obtain⟨v,hv⟩:∃v,v=rd x (k:Int):=⟨_,rfl⟩
  rw[←hx]at li ai v0 v1
  rw[←hf]at lk ak hb
  rw[←hv]at v0 v1
  have tv:T r (i:Int) (k:Int)=v:=by rw[Tn,←hx,←hv]
  obtain⟨w1,w2,w3⟩:=w_div (x:=v) (g:=best) v0 (by omega) b0
  obtain⟨t,ht⟩:∃t,t=v / best:=⟨_,rfl⟩
  rw[←ht]at w1 w2 w3
  obtain⟨F,hF⟩:∃F,F=mix m 1 x (-t) f:=⟨_,rfl⟩
  have Fl:F.length=x.length:=by rw[hF,Za4]
  have me:¬ m=0:=by omega
  have be:¬ best=0:=by omega
  have hset:r.set (i:Int).toNat (row r (i:Int))=r:=by rw[Int.toNat_natCast];exact Zbe r i
  have inner:=up W (fun c=>Za.l10 m (W:Int) (k:Int) flag (i:Int) t (W:Int) (c:Int) (r.set i (upd1 F x c)) out best) (fun c hc=>by
   obtain⟨a0,a1⟩:=ai (c:Int) (by omega) (by omega)
   obtain⟨c0,c1⟩:=ak (c:Int) (by omega) (by omega)
   have sl:(r.set i (upd1 F x c)).length=R:=by rw[List.length_set];omega
   have sr:row (r.set i (upd1 F x c)) (i:Int)=upd1 F x c:=ZaD (by omega)
   have sk:row (r.set i (upd1 F x c)) (k:Int)=f:=by rw[Za5 (by omega)];exact hf.symm
   have l1:=Zeh Fl c
   have tvc:T (r.set i (upd1 F x c)) (i:Int) (c:Int)=rd x (c:Int):=by rw[Tn,sr,ZfG Fl (by omega)]
   have tkc:T (r.set i (upd1 F x c)) (k:Int) (c:Int)=rd f (c:Int):=by rw[Tn,sk]
   have tw:0≤t*rd f (c:Int)∧t*rd f (c:Int)≤12*12:=⟨Int.mul_nonneg w2 (by omega),Int.mul_le_mul (by omega) (by omega) (by omega) (by omega)⟩
   have e1:Int.tmod (wrapI (Int.tmod (wrapI (rd x (c:Int) - wrapI (t*rd f (c:Int)))) m+m)) m=rd F (c:Int):=by
    rw[w64 (x:=t*rd f (c:Int)) (by omega) (by omega),w64 (x:=rd x (c:Int) - t*rd f (c:Int)) (by omega) (by omega),ZkL (by omega) (by omega) (by omega) (by omega),hF,Zbw (by omega),Int.one_mul,Int.neg_mul]
    rfl
   have hsk:(r.set i (upd1 F x c)).set (k:Int).toNat f=r.set i (upd1 F x c):=by rw[Int.toNat_natCast,←sk];exact Zbe _ k
   rw[Za.l10_eq,wn (j:=c) (by omega),tvc,tkc,e1,sr,sk,hsk,Int.toNat_natCast,Int.toNat_natCast,Zdv Fl (by omega)]
   simp only[List.set_set,if_true]
   ((with_reducible repeat (first|refine Zl (by first|assumption|omega|rfl|exact B_pos (by omega)) ?_|refine Zk (by first|assumption|omega|decide|exact B_not (by omega)) ?_|refine Ze (by first|assumption) ?_|dsimp only));first|done|(with_reducible rfl)|simp (disch:=omega) only[w64]|(show False;done)))
  rw[Zdw,show upd1 F x W=F by rw[←li];exact Zeg Fl,show r.set i x=r by rw[hx];exact Zbe r i]at inner
  have inner:Za.l10 m (W:Int) (k:Int) flag (i:Int) t (W:Int) 0 r out best=_:=inner
  obtain⟨r1,hr1⟩:∃r1,r1=r.set i F:=⟨_,rfl⟩
  have r1l:r1.length=R:=by rw[hr1,List.length_set];exact hl
  have r1i:row r1 (i:Int)=F:=by rw[hr1];exact ZaD (by omega)
  have r1n:∀j:Nat,j≠i→row r1 (j:Int)=row r (j:Int):=fun j hj=>by rw[hr1,Za5 hj]
  have ri:RI m W R k out r r1:=by rw[hr1,hF,hx,hf];exact ZmK (by omega) hl ok ho (by omega) (by omega) (by omega) (Nat.le_refl _) (by omega) (by omega) (-t)
  have Fk:rd F (k:Int)=v%best:=by
   have q:=Int.mul_ediv_add_emod v best
   have q1:=Int.emod_nonneg v (show best≠0 by omega)
   have q2:=Int.emod_lt_of_pos v b0
   rw[hF,Zbw (by omega),←hv,hb,ht,Int.one_mul,Int.neg_mul,Int.mul_comm (v / best) best,show v + -(best*(v / best))=v%best by omega]
   exact Int.emod_eq_of_lt (by omega) (by omega)
  have same:v=0→r1=r:=fun h=>by
   have t0:t=0:=by rw[ht,h,Int.zero_ediv]
   rw[hr1,hF,t0,Zi7 ai,hx];exact Zbe r i
  have fin:Za.l10 m (W:Int) (k:Int) flag (i:Int) t (W:Int) (W:Int) r1 out best=Za.l9 m (W:Int) (k:Int) (flag && decide (v%best=0)) ((i+1:Nat):Int) r1 out best:=by
   have tk:T r1 (i:Int) (k:Int)=v%best:=by rw[Tn,r1i,Fk]
   have hs1:r1.set (i:Int).toNat F=r1:=by rw[Int.toNat_natCast,←r1i];exact Zbe r1 i
   rw[Za.l10_eq,wn (j:=i) (by omega),tk,r1i,hs1]
   cases flag <;> simp only[Bool.false_and,Bool.true_and,if_true] <;> ((with_reducible repeat (first|refine Zl (by first|assumption|omega|rfl|exact B_pos (by omega)) ?_|refine Zk (by first|assumption|omega|decide|exact B_not (by omega)) ?_|refine Ze (by first|assumption) ?_|dsimp only));first|done|(with_reducible rfl)|simp (disch:=omega) only[w64]|(show False;done))
  obtain⟨r', flag', k1,k2,k3,k4,k5,k6,k7⟩:=ih (i+1) r1 (flag && decide (v%best=0)) (by omega) (by omega) r1l ri.ok (by rw[r1n k (by omega),←hf];exact hb)
  have rki:rd (row r' (i:Int)) (k:Int)=v%best:=by rw[k4 i (by omega),r1i,Fk]
  refine⟨r', flag', ?_,ri.trans k2,by rw[k3,r1n k (by omega)],fun j hj=>by rw[k4 j (by omega),r1n j (by omega)],fun j h1 h2 => ?_,?_,fun h => ?_⟩
  ·
   rw[←k1,←fin,hr1,←inner,Za.l9_eq]
   simp only[hset,tv,w1]
   rw[←hx,li]
   ((with_reducible repeat (first|refine Zl (by first|assumption|omega|rfl|exact B_pos (by omega)) ?_|refine Zk (by first|assumption|omega|decide|exact B_not (by omega)) ?_|refine Ze (by first|assumption) ?_|dsimp only));first|done|(with_reducible rfl)|simp (disch:=omega) only[w64]|(show False;done))
  ·
   by_cases e:j=i
   ·
    subst e;rw[rki,←hx,←hv]
   ·
    rw[k5 j (by omega) h2,r1n j e]
  ·
   rw[k6,Bool.and_eq_true,decide_eq_true_iff]
   constructor
   ·
    rintro⟨⟨q1,q2⟩,q3⟩
    refine⟨q1,fun j h1 h2 => ?_⟩
    by_cases e:j=i
    ·
     subst e;rw[rki];exact q2
    ·
     exact q3 j (by omega) h2
   ·
    rintro⟨q1,q2⟩
    exact⟨⟨q1,by rw[←rki];exact q2 i (Nat.le_refl _) (by omega)⟩,fun j h1 h2=>q2 j (by omega) h2⟩
  ·
   have v00:v=0:=by rw[hv,hx];exact h i (Nat.le_refl _) (by omega)
   have:=same v00
   rw[k7 (fun j h1 h2=>by rw[r1n j (by omega)];exact h j (by omega) h2),this]
theorem ZjE (m2:2≤m) (m12:m≤12) (hW:W≤1000) (hR:R≤100000) (hkR:k < R) {best:Int} (b0:0 < best) (bm:best < m):∀(n c:Nat) (r:List (List Int)) (flag:Bool),c+n=W→k < c→r.length=R→Rok m W r→rd (row r (k:Int)) (k:Int)=best →
  ∃r' flag', Za.l11 m (W:Int) (k:Int) flag (c:Int) r out best=Za.l11 m (W:Int) (k:Int) flag' (W:Int) r' out best∧RI m W R k out r r' ∧ (∀i j:Nat,i < R→j < c→rd (row r' (i:Int)) (j:Int)=rd (row r (i:Int)) (j:Int))∧(∀j:Nat,c≤j→j < W→rd (row r' (k:Int)) (j:Int)=rd (row r (k:Int)) (j:Int)%best) ∧
   (flag' = true↔flag=true∧∀j:Nat,c≤j→j < W→rd (row r' (k:Int)) (j:Int)=0):=by
 intro n
 induction n with
 | zero =>
  intro c r flag hc hkc hl ok hb
  have:c=W:=by omega
  subst this
  exact⟨r,flag,rfl,.refl hl ok,fun i j _ _=>rfl,fun j h1 h2=>by omega,⟨fun h=>⟨h,fun j h1 h2=>by omega⟩,fun h=>h.1⟩⟩
 | succ n ih =>
  intro c r flag hc hkc hl ok hb
  obtain⟨lk,ak⟩:=ok k (by omega)
  obtain⟨v0,v1⟩:=ok.bd (i:=k) (k:=c) (by omega) (by omega)
  obtain⟨v,hv⟩:∃v,v=rd (row r (k:Int)) (c:Int):=⟨_,rfl⟩
  rw[←hv]at v0 v1
  have tv:T r (k:Int) (c:Int)=v:=by rw[Tn,←hv]
  obtain⟨w1,w2,w3⟩:=w_div (x:=v) (g:=best) v0 (by omega) b0
  obtain⟨t,ht⟩:∃t,t=v / best:=⟨_,rfl⟩
  rw[←ht]at w1 w2 w3
  have me:¬ m=0:=by omega
  have be:¬ best=0:=by omega
  have hset:r.set (k:Int).toNat (row r (k:Int))=r:=by rw[Int.toNat_natCast];exact Zbe r k
  have inner:=up R (fun i=>Za.l12 m (W:Int) (k:Int) flag (c:Int) t (R:Int) (i:Int) (updR (cole m k c t) r i) out best) (fun i hi=>by
   obtain⟨li,ai⟩:=ok i (by omega)
   have ul:=Zei (cole m k c t) r i
   have ur:=Ze4 (cole m k c t) r (j:=i) (by omega)
   obtain⟨a0,a1⟩:=ok.bd (i:=i) (k:=c) (by omega) (by omega)
   obtain⟨c0,c1⟩:=ok.bd (i:=i) (k:=k) (by omega) (by omega)
   have tc:T (updR (cole m k c t) r i) (i:Int) (c:Int)=rd (row r (i:Int)) (c:Int):=by rw[Tn,ur]
   have tk:T (updR (cole m k c t) r i) (i:Int) (k:Int)=rd (row r (i:Int)) (k:Int):=by rw[Tn,ur]
   obtain⟨p,hp⟩:∃p,p=rd (row r (i:Int)) (c:Int):=⟨_,rfl⟩
   obtain⟨q,hq⟩:∃q,q=rd (row r (i:Int)) (k:Int):=⟨_,rfl⟩
   rw[←hp]at a0 a1 tc
   rw[←hq]at c0 c1 tk
   have tw:0≤t*q∧t*q≤12*12:=⟨Int.mul_nonneg w2 (by omega),Int.mul_le_mul (by omega) (by omega) (by omega) (by omega)⟩
   have e1:Int.tmod (wrapI (Int.tmod (wrapI (p - wrapI (t*q))) m+m)) m=(p - t*q)%m:=by
    rw[w64 (x:=t*q) (by omega) (by omega),w64 (x:=p - t*q) (by omega) (by omega),ZkL (by omega) (by omega) (by omega) (by omega)]
   have e2:(row r (i:Int)).set c ((p - t*q)%m)=cole m k c t (row r (i:Int)):=by rw[cole,←hp,←hq]
   rw[Za.l12_eq,wn (j:=i) (by omega),tc,tk,e1,ur,Int.toNat_natCast,Int.toNat_natCast,e2,Zej _ _ (show i < r.length by omega)]
   ((with_reducible repeat (first|refine Zl (by first|assumption|omega|rfl|exact B_pos (by omega)) ?_|refine Zk (by first|assumption|omega|decide|exact B_not (by omega)) ?_|refine Ze (by first|assumption) ?_|dsimp only));first|done|(with_reducible rfl)|simp (disch:=omega) only[w64]|(show False;done)))
  rw[Zek,show updR (cole m k c t) r R=r.map (cole m k c t)by rw[←hl];exact Ze3 _ _]at inner
  have inner:Za.l12 m (W:Int) (k:Int) flag (c:Int) t (R:Int) 0 r out best=_:=inner
  obtain⟨r1,hr1⟩:∃r1,r1=r.map (cole m k c t):=⟨_,rfl⟩
  have r1l:r1.length=R:=by rw[hr1,List.length_map];exact hl
  have r1n:∀i j:Nat,i < R→j≠c→rd (row r1 (i:Int)) (j:Int)=rd (row r (i:Int)) (j:Int):=fun i j hi hj=>by
   rw[hr1,ZbB _ _ (by omega),Zge (by have:=(ok i (by omega)).1;omega),if_neg hj]
  have r1c:rd (row r1 (k:Int)) (c:Int)=v%best:=by
   have q:=Int.mul_ediv_add_emod v best
   have q1:=Int.emod_nonneg v (show best≠0 by omega)
   have q2:=Int.emod_lt_of_pos v b0
   rw[hr1,ZbB _ _ (by omega),Zge (by omega),if_pos rfl,←hv,hb,ht,Int.mul_comm (v / best) best,show v - best*(v / best)=v%best by omega]
   exact Int.emod_eq_of_lt (by omega) (by omega)
  have ri:RI m W R k out r r1:=by rw[hr1];exact Znu (by omega) hl ok (by omega) hkc (by omega) t
  obtain⟨lk1,_⟩:=ri.ok k (by omega)
  have fin:Za.l12 m (W:Int) (k:Int) flag (c:Int) t (R:Int) (R:Int) r1 out best=Za.l11 m (W:Int) (k:Int) (flag && decide (v%best=0)) ((c+1:Nat):Int) r1 out best:=by
   have tk:T r1 (k:Int) (c:Int)=v%best:=by rw[Tn,r1c]
   have hs1:r1.set (k:Int).toNat (row r1 (k:Int))=r1:=by rw[Int.toNat_natCast];exact Zbe r1 k
   rw[Za.l12_eq,wn (j:=c) (by omega),tk]
   simp only[hs1]
   cases flag <;> simp only[Bool.false_and,Bool.true_and,if_true] <;> ((with_reducible repeat (first|refine Zl (by first|assumption|omega|rfl|exact B_pos (by omega)) ?_|refine Zk (by first|assumption|omega|decide|exact B_not (by omega)) ?_|refine Ze (by first|assumption) ?_|dsimp only));first|done|(with_reducible rfl)|simp (disch:=omega) only[w64]|(show False;done))
  obtain⟨r', flag', k1,k2,k3,k4,k5⟩:=ih (c+1) r1 (flag && decide (v%best=0)) (by omega) (by omega) r1l ri.ok (by rw[r1n k k (by omega) (by omega)];exact hb)
  have rkc:rd (row r' (k:Int)) (c:Int)=v%best:=by rw[k3 k c (by omega) (by omega),r1c]
  refine⟨r', flag', ?_,ri.trans k2,fun i j hi hj=>by rw[k3 i j hi (by omega),r1n i j hi (by omega)],fun j h1 h2 => ?_,?_⟩
  ·
   rw[←k1,←fin,hr1,←inner,Za.l11_eq]
   simp only[hset,tv,w1,hl]
   ((with_reducible repeat (first|refine Zl (by first|assumption|omega|rfl|exact B_pos (by omega)) ?_|refine Zk (by first|assumption|omega|decide|exact B_not (by omega)) ?_|refine Ze (by first|assumption) ?_|dsimp only));first|done|(with_reducible rfl)|simp (disch:=omega) only[w64]|(show False;done))
  ·
   by_cases e:j=c
   ·
    subst e;rw[rkc,←hv]
   ·
    rw[k4 j (by omega) h2,r1n k j (by omega) e]
  ·
   rw[k5,Bool.and_eq_true,decide_eq_true_iff]
   constructor
   ·
    rintro⟨⟨q1,q2⟩,q3⟩
    refine⟨q1,fun j h1 h2 => ?_⟩
    by_cases e:j=c
    ·
     subst e;rw[rkc];exact q2
    ·
     exact q3 j (by omega) h2
   ·
    rintro⟨q1,q2⟩
    exact⟨⟨q1,by rw[←rkc];exact q2 c (Nat.le_refl _) (by omega)⟩,fun j h1 h2=>q2 j (by omega) h2⟩
end
end Go.Proofs.YtdamfbighdkcbaaGreat.V
namespace Go.Proofs.YtdamfbighdkcbaaGreat.V
open Go.RowKit Go.Proofs.YtdamfbighdkcbaaGreat.D Go.Proofs.YtdamfbighdkcbaaGreat.P
section
variable {m:Int} {W R k:Nat} {out:List Int}
theorem ZlW (m2:2≤m) (m12:m≤12) (hW:W≤1000) (hR:R≤100000) {r:List (List Int)} (hl:r.length=R) (ok:Rok m W r) {i:Nat} (hki:k < i) (hi:i < R) (best:Int) :
  Za.l14 m (W:Int) (k:Int) (i:Int) (W:Int) 0 r out best=Za.l13 m (W:Int) (k:Int) false ((i+1:Nat):Int) (r.set k (mix m 1 (row r (k:Int)) 1 (row r (i:Int)))) out best:=by
 obtain⟨li,ai⟩:=ok i (by omega)
 obtain⟨lk,ak⟩:=ok k (by omega)
 obtain⟨x,hx⟩:∃x,x=row r (k:Int):=⟨_,rfl⟩
 obtain⟨f,hf⟩:∃f,f=row r (i:Int):=⟨_,rfl⟩
 rw[←hx]at lk ak ⊢
 rw[←hf]at li ai ⊢
 obtain⟨F,hF⟩:∃F,F=mix m 1 x 1 f:=⟨_,rfl⟩
 rw[←hF]
 have Fl:F.length=x.length:=by rw[hF,Za4]
 have me:¬ m=0:=by omega
 have inner:=up W (fun c=>Za.l14 m (W:Int) (k:Int) (i:Int) (W:Int) (c:Int) (r.set k (upd1 F x c)) out best) (fun c hc=>by
  obtain⟨a0,a1⟩:=ai (c:Int) (by omega) (by omega)
  obtain⟨c0,c1⟩:=ak (c:Int) (by omega) (by omega)
  have sl:(r.set k (upd1 F x c)).length=R:=by rw[List.length_set];omega
  have sr:row (r.set k (upd1 F x c)) (k:Int)=upd1 F x c:=ZaD (by omega)
  have si:row (r.set k (upd1 F x c)) (i:Int)=f:=by rw[Za5 (by omega)];exact hf.symm
  have l1:=Zeh Fl c
  have tvc:T (r.set k (upd1 F x c)) (k:Int) (c:Int)=rd x (c:Int):=by rw[Tn,sr,ZfG Fl (by omega)]
  have tic:T (r.set k (upd1 F x c)) (i:Int) (c:Int)=rd f (c:Int):=by rw[Tn,si]
  have e1:Int.tmod (wrapI (rd x (c:Int)+rd f (c:Int))) m=rd F (c:Int):=by
   rw[w64 (by omega) (by omega),Zdt (by omega),hF,Zbw (by omega),Int.one_mul,Int.one_mul]
  have hsi:(r.set k (upd1 F x c)).set (i:Int).toNat f=r.set k (upd1 F x c):=by rw[Int.toNat_natCast,←si];exact Zbe _ i
  rw[Za.l14_eq,wn (j:=c) (by omega),tvc,tic,e1,sr,si,hsi,Int.toNat_natCast,Int.toNat_natCast,Zdv Fl (by omega)]
  simp only[List.set_set,if_true]
  ((with_reducible repeat (first|refine Zl (by first|assumption|omega|rfl|exact B_pos (by omega)) ?_|refine Zk (by first|assumption|omega|decide|exact B_not (by omega)) ?_|refine Ze (by first|assumption) ?_|dsimp only));first|done|(with_reducible rfl)|simp (disch:=omega) only[w64]|(show False;done)))
 rw[Zdw,show upd1 F x W=F by rw[←lk];exact Zeg Fl,show r.set k x=r by rw[hx];exact Zbe r k]at inner
 have inner:Za.l14 m (W:Int) (k:Int) (i:Int) (W:Int) 0 r out best=_:=inner
 rw[inner,Za.l14_eq,wn (j:=i) (by omega)]
 ((with_reducible repeat (first|refine Zl (by first|assumption|omega|rfl|exact B_pos (by omega)) ?_|refine Zk (by first|assumption|omega|decide|exact B_not (by omega)) ?_|refine Ze (by first|assumption) ?_|dsimp only));first|done|(with_reducible rfl)|simp (disch:=omega) only[w64]|(show False;done))
theorem diag_last (m2:2≤m) (m12:m≤12) (hW:W≤1000) (hR:R≤100000) (ho:out.length≤1000) {best:Int} (b0:0 < best) {r:List (List Int)} (hl:r.length=R) (ok:Rok m W r) (hkR:k < R):∀(n i:Nat),i+n=R→k < i→(∀j c:Nat,k < j→j < i→c < W→best∣rd (row r (j:Int)) (c:Int)) →
  (∃j c:Nat,k < j∧j < R∧c < W∧¬ best∣rd (row r (j:Int)) (c:Int)∧Za.l13 m (W:Int) (k:Int) true (i:Int) r out best=Za.l2 m (W:Int) (r.set k (mix m 1 (row r (k:Int)) 1 (row r (j:Int)))) out) ∨
  ((∀j c:Nat,k < j→j < R→c < W→best∣rd (row r (j:Int)) (c:Int))∧Za.l13 m (W:Int) (k:Int) true (i:Int) r out best=Za.l2 m (W:Int) r (out++[best])):=by
 intro n
 induction n with
 | zero =>
  intro i hi hki h
  refine .inr ⟨fun j c h1 h2 h3=>h j c h1 (by omega) h3,?_⟩
  have l1:([best]:List Int).length=1:=rfl
  rw[Za.l13_eq]
  ((with_reducible repeat (first|refine Zl (by first|assumption|omega|rfl|exact B_pos (by omega)) ?_|refine Zk (by first|assumption|omega|decide|exact B_not (by omega)) ?_|refine Ze (by first|assumption) ?_|dsimp only));first|done|(with_reducible rfl)|simp (disch:=omega) only[w64]|(show False;done))
 | succ n ih =>
  intro i hi hki h
  obtain⟨li,ai⟩:=ok i (by omega)
  have be:¬ best=0:=by omega
  have hset:r.set (i:Int).toNat (row r (i:Int))=r:=by rw[Int.toNat_natCast];exact Zbe r i
  have hF:∀x∈row r (i:Int),((fun z0=>((fun z0=>(Zan.f z0 best).map fun z=>z) z0).map fun z=>z):Int→Option Bool) x=some ((fun x => !decide (Int.tmod x best=0)) x):=fun x hx=>by
   show((Zan.f x best).map fun z=>z).map (fun z=>z)=_
   rw[Zan.f_eq,if_neg be]
   rfl
  have mem:∀c:Nat,c < W→rd (row r (i:Int)) (c:Int)∈row r (i:Int):=fun c hc=>ZcD (by omega) (by omega)
  rcases indexFuncI (row r (i:Int)) (by omega) hF with ⟨q1,q2⟩|⟨c,q1,q2,q3,q4⟩
  ·
   have hC:ZH.f (row r (i:Int)) (fun z0=>(Zan.f z0 best).map fun z=>z)=some false:=by
    rw[ZH.f_eq,q2]
    rfl
   have hd:∀c:Nat,c < W→best∣rd (row r (i:Int)) (c:Int):=fun c hc=>by
    have:=q1 _ (mem c hc)
    rw[Bool.not_eq_false', decide_eq_true_iff]at this
    exact Int.dvd_of_tmod_eq_zero this
   have step:Za.l13 m (W:Int) (k:Int) true (i:Int) r out best=Za.l13 m (W:Int) (k:Int) true ((i+1:Nat):Int) r out best:=by
    rw[Za.l13_eq,wn (j:=i) (by omega),hC,Option.bind_some]
    simp only[hset,if_true,Bool.false_eq_true,if_false]
    ((with_reducible repeat (first|refine Zl (by first|assumption|omega|rfl|exact B_pos (by omega)) ?_|refine Zk (by first|assumption|omega|decide|exact B_not (by omega)) ?_|refine Ze (by first|assumption) ?_|dsimp only));first|done|(with_reducible rfl)|simp (disch:=omega) only[w64]|(show False;done))
   rw[step]
   exact ih (i+1) (by omega) (by omega) fun j c h1 h2 h3=>by
    by_cases e:j=i
    ·
     subst e;exact hd c h3
    ·
     exact h j c h1 (by omega) h3
  ·
   have hC:ZH.f (row r (i:Int)) (fun z0=>(Zan.f z0 best).map fun z=>z)=some true:=by
    rw[ZH.f_eq,q4]
    simp
   have nd:¬ best∣rd (row r (i:Int)) (c:Int):=fun hd=>by
    have q2:(!decide (Int.tmod (rd (row r (i:Int)) (c:Int)) best=0))=true:=q2
    rw[Bool.not_eq_true', decide_eq_false_iff_not]at q2
    exact q2 (Int.tmod_eq_zero_of_dvd hd)
   refine .inl ⟨i,c,hki,by omega,by omega,nd,?_⟩
   obtain⟨r1,hr1⟩:∃r1,r1=r.set k (mix m 1 (row r (k:Int)) 1 (row r (i:Int))):=⟨_,rfl⟩
   have hp:=ZlW (out:=out) m2 m12 hW hR hl ok hki (by omega) best
   have hks:r.set (k:Int).toNat (row r (k:Int))=r:=by rw[Int.toNat_natCast];exact Zbe r k
   have lk:=(ok k (by omega)).1
   have fin:Za.l13 m (W:Int) (k:Int) false ((i+1:Nat):Int) r1 out best=Za.l2 m (W:Int) r1 out:=by
    have l1:([best]:List Int).length=1:=rfl
    rw[Za.l13_eq]
    simp only[Bool.false_eq_true,if_false]
    split <;> rfl
   rw[←hr1]at hp ⊢
   rw[←fin,←hp,Za.l13_eq,hC,Option.bind_some]
   simp only[hset,if_true,hks]
   rw[lk]
   ((with_reducible repeat (first|refine Zl (by first|assumption|omega|rfl|exact B_pos (by omega)) ?_|refine Zk (by first|assumption|omega|decide|exact B_not (by omega)) ?_|refine Ze (by first|assumption) ?_|dsimp only));first|done|(with_reducible rfl)|simp (disch:=omega) only[w64]|(show False;done))
theorem ZjF (hW:W≤1000) {r:List (List Int)}:∀(n:Nat) (out:List Int),out.length+n=W→Za.l5 m (W:Int) r out=some (out++List.replicate n m,r):=by
 intro n
 induction n with
 | zero =>
  intro out ho
  rw[Za.l5_eq,List.replicate_zero,List.append_nil]
  ((with_reducible repeat (first|refine Zl (by first|assumption|omega|rfl|exact B_pos (by omega)) ?_|refine Zk (by first|assumption|omega|decide|exact B_not (by omega)) ?_|refine Ze (by first|assumption) ?_|dsimp only));first|done|(with_reducible rfl)|simp (disch:=omega) only[w64]|(show False;done))
 | succ n ih =>
  intro out ho
  have l1:([m]:List Int).length=1:=rfl
  have:=ih (out++[m]) (by rw[List.length_append,l1];omega)
  rw[Za.l5_eq,this,List.append_assoc,List.replicate_succ,List.singleton_append]
  ((with_reducible repeat (first|refine Zl (by first|assumption|omega|rfl|exact B_pos (by omega)) ?_|refine Zk (by first|assumption|omega|decide|exact B_not (by omega)) ?_|refine Ze (by first|assumption) ?_|dsimp only));first|done|(with_reducible rfl)|simp (disch:=omega) only[w64]|(show False;done))
theorem ZkD (m2:2≤m) (m12:m≤12) (hW:W≤1000) (hR:R≤100000) {r:List (List Int)} (hl:r.length=R) (ok:Rok m W r):∀(n:Nat) (out:List Int),out.length+n=W→(∀i c:Nat,out.length≤i→i < R→out.length≤c→c < W→rd (row r (i:Int)) (c:Int)=0)→Za.l2 m (W:Int) r out=some (out++List.replicate n m,r):=by
 intro n
 induction n with
 | zero =>
  intro out ho _
  rw[Za.l2_eq,List.replicate_zero,List.append_nil]
  ((with_reducible repeat (first|refine Zl (by first|assumption|omega|rfl|exact B_pos (by omega)) ?_|refine Zk (by first|assumption|omega|decide|exact B_not (by omega)) ?_|refine Ze (by first|assumption) ?_|dsimp only));first|done|(with_reducible rfl)|simp (disch:=omega) only[w64]|(show False;done))
 | succ n ih =>
  intro out ho h
  have l1:([m]:List Int).length=1:=rfl
  have la:(out++[m]).length=out.length+1:=by rw[List.length_append,l1]
  obtain⟨x,y,best,k1,k2⟩:=Zg9 m2 m12 hW hR hl ok (k:=out.length) (by omega) out
  rcases k2 with ⟨h1,h2,h3⟩|⟨A,C,h1,h2,⟨h3,h4,h5,h6⟩,h7,h8⟩
  ·
   subst h1
   have r1:=ih (out++[m]) (by rw[la];omega) fun i c a1 a2 a3 a4=>by rw[la]at a1 a3;exact h i c (by omega) a2 (by omega) a4
   have r2:=ZjF (m:=m) hW (r:=r) n (out++[m]) (by rw[la];omega)
   have e:out++[m]++List.replicate n m=out++List.replicate (n+1) m:=by rw[List.append_assoc,List.replicate_succ,List.singleton_append]
   rw[e]at r1 r2
   have s1:Za.l2 m (W:Int) r out=Za.l3 m (W:Int) (out.length:Int) (-1) (-1) (out.length:Int) r out m:=by
    rw[Za.l2_eq]
    ((with_reducible repeat (first|refine Zl (by first|assumption|omega|rfl|exact B_pos (by omega)) ?_|refine Zk (by first|assumption|omega|decide|exact B_not (by omega)) ?_|refine Ze (by first|assumption) ?_|dsimp only));first|done|(with_reducible rfl)|simp (disch:=omega) only[w64]|(show False;done))
   rw[s1,k1,Za.l3_eq,r1,r2]
   by_cases q:out.length < R
   ·
    ((with_reducible repeat (first|refine Zl (by first|assumption|omega|rfl|exact B_pos (by omega)) ?_|refine Zk (by first|assumption|omega|decide|exact B_not (by omega)) ?_|refine Ze (by first|assumption) ?_|dsimp only));first|done|(with_reducible rfl)|simp (disch:=omega) only[w64]|(show False;done))
   ·
    ((with_reducible repeat (first|refine Zl (by first|assumption|omega|rfl|exact B_pos (by omega)) ?_|refine Zk (by first|assumption|omega|decide|exact B_not (by omega)) ?_|refine Ze (by first|assumption) ?_|dsimp only));first|done|(with_reducible rfl)|simp (disch:=omega) only[w64]|(show False;done))
  ·
   exact absurd (h A C h3 h4 h5 h6) h7
structure DI (m:Int) (W R k:Nat) (out:List Int) (X r:List (List Int)):Prop where
 len:r.length=R
 ok:Rok m W r
 oo:OutOk m W k out
 kW:k≤W
 kR:k≤R
 eqd:Eqd m W (Mx m W X) (Mx m W (Lm W out r k))
 zer:∀i c:Nat,k≤i→i < R→c < k→rd (row r (i:Int)) (c:Int)=0
 dv:∀n∈out,∀i c:Nat,k≤i→i < R→c < W→n∣rd (row r (i:Int)) (c:Int)
 pw:out.Pairwise fun a b=>a∣b
theorem DI.ri {X r r' : List (List Int)} (h:DI m W R k out X r) (i:RI m W R k out r r'):DI m W R k out X r' :=
 ⟨i.len,i.ok,h.oo,h.kW,h.kR,h.eqd.trans i.eqd,i.zer h.zer,fun n hn=>i.dv n (h.oo.ent n hn).2.2 (h.dv n hn),h.pw⟩
def Pp (m:Int) (W R k:Nat) (r:List (List Int)) (g:Nat):Prop:=∃i c:Nat,k≤i∧i < R∧k≤c∧c < W∧¬ rd (row r (i:Int)) (c:Int)=0∧Int.gcd (rd (row r (i:Int)) (c:Int)) m≤g
structure Qq (m:Int) (W R k:Nat) (r:List (List Int)) (g:Nat):Prop where
 at_:rd (row r (k:Int)) (k:Int)=(g:Int)
 pos:0 < g
 dvd:(g:Int)∣m
 col:∀i:Nat,k < i→i < R→rd (row r (i:Int)) (k:Int)=0
 row:∃c:Nat,k < c∧c < W∧¬ (g:Int)∣rd (row r (k:Int)) (c:Int)
theorem Pp.of {r:List (List Int)} (ok:Rok m W r) (hl:r.length=R) {i c g:Nat} (h1:k≤i) (h2:i < R) (h3:k≤c) (h4:c < W) (h5:¬ rd (row r (i:Int)) (c:Int)=0) (h6:rd (row r (i:Int)) (c:Int) < (g:Int)):Pp m W R k r (g - 1):=by
 obtain⟨a0,a1⟩:=ok.bd (i:=i) (k:=c) (by omega) h4
 have:((Int.gcd (rd (row r (i:Int)) (c:Int)) m:Nat):Int)≤rd (row r (i:Int)) (c:Int):=Int.le_of_dvd (by omega) (Int.gcd_dvd_left ..)
 exact⟨i,c,h1,h2,h3,h4,h5,by omega⟩
theorem ZjG (m2:2≤m) (m12:m≤12) (hW:W≤1000) (hR:R≤100000) {X r:List (List Int)} (h:DI m W R k out X r) (hk:k < W) (hne:∃i c:Nat,k≤i∧i < R∧k≤c∧c < W∧¬ rd (row r (i:Int)) (c:Int)=0) :
  ∃(b:Nat) (r' : List (List Int)),0 < b∧(∀g,Pp m W R k r g→b≤g)∧((Za.l2 m (W:Int) r out=Za.l2 m (W:Int) r' out∧DI m W R k out X r' ∧ (Pp m W R k r' (b - 1)∨(Qq m W R k r' b∧¬ Qq m W R k r b))) ∨
   (Za.l2 m (W:Int) r out=Za.l2 m (W:Int) r' (out++[(b:Int)])∧DI m W R (k+1) (out++[(b:Int)]) X r')):=by
 have ol:=h.oo.len
 have hl:=h.len
 have ok:=h.ok
 obtain⟨x,y,best,k1,k2⟩:=Zg9 m2 m12 hW hR hl ok (k:=k) hk out
 rcases k2 with ⟨h1,h2,h3⟩|⟨A,C,h1,h2,⟨h3,h4,h5,h6⟩,h7,h8,h9,h10⟩
 ·
  obtain⟨i,c,q1,q2,q3,q4,q5⟩:=hne
  exact absurd (h3 i c ⟨q1,q2,q3,q4⟩) q5
 subst h1;subst h2
 obtain⟨b,hb⟩:∃b,b=Int.gcd (rd (row r (A:Int)) (C:Int)) m:=⟨_,rfl⟩
 rw[←hb]at h8
 subst h8
 obtain⟨v0,v1⟩:=ok.bd (i:=A) (k:=C) (by omega) h6
 have b0:0 < b:=by rw[hb];exact Int.gcd_pos_of_ne_zero_left m h7
 have bv:(b:Int)≤rd (row r (A:Int)) (C:Int):=by rw[hb];exact Int.le_of_dvd (by omega) (Int.gcd_dvd_left ..)
 have bm:(b:Int)∣m:=by rw[hb];exact Int.gcd_dvd_right ..
 obtain⟨r1,hr1⟩:∃r1,r1=(r.set k (row r (A:Int))).set A (row r (k:Int)):=⟨_,rfl⟩
 have i1:RI m W R k out r r1:=by rw[hr1];exact Znv hl ok h.kR (Nat.le_refl _) (by omega) h3 h4
 obtain⟨r2,hr2⟩:∃r2,r2=r1.map (swk k C):=⟨_,rfl⟩
 have i2:RI m W R k out r r2:=i1.trans (by rw[hr2];exact ZnY (by omega) i1.len i1.ok h.kR hk h5 h6)
 have r1k:row r1 (k:Int)=row r (A:Int):=by
  by_cases e:k=A
  ·
   rw[hr1,←e];exact ZaD (by rw[List.length_set];omega)
  ·
   rw[hr1,Za5 e];exact ZaD (by omega)
 have hx:rd (row r (A:Int)) (C:Int)=rd (row r2 (k:Int)) (k:Int):=by
  have:=(i1.ok k (by have:=i1.len;omega)).1
  rw[hr2,ZbB _ _ (by have:=i1.len;omega),Zlx (by omega) (by omega),r1k]
  split
  ·
   rename_i e;rw[←e]
  ·
   rw[if_pos rfl]
 have start:Za.l2 m (W:Int) r out=Za.l6 m (W:Int) (k:Int) (C:Int) (R:Int) 0 r1 out (b:Int):=by
  have s1:Za.l2 m (W:Int) r out=Za.l3 m (W:Int) (k:Int) (-1) (-1) (k:Int) r out m:=by
   rw[Za.l2_eq,ol]
   ((with_reducible repeat (first|refine Zl (by first|assumption|omega|rfl|exact B_pos (by omega)) ?_|refine Zk (by first|assumption|omega|decide|exact B_not (by omega)) ?_|refine Ze (by first|assumption) ?_|dsimp only));first|done|(with_reducible rfl)|simp (disch:=omega) only[w64]|(show False;done))
  rw[s1,k1,Za.l3_eq]
  by_cases e:k=A
  ·
   have e1:r.set (A:Int).toNat (row r (A:Int))=r:=by rw[Int.toNat_natCast];exact Zbe r A
   have e2:r1=r:=by rw[hr1,←e,Zbe,Zbe]
   simp only[e1,hl,e2]
   ((with_reducible repeat (first|refine Zl (by first|assumption|omega|rfl|exact B_pos (by omega)) ?_|refine Zk (by first|assumption|omega|decide|exact B_not (by omega)) ?_|refine Ze (by first|assumption) ?_|dsimp only));first|done|(with_reducible rfl)|simp (disch:=omega) only[w64]|(show False;done))
  ·
   have e1:(r.set (k:Int).toNat (row r (A:Int))).set (A:Int).toNat (row r (k:Int))=r1:=by rw[hr1,Int.toNat_natCast,Int.toNat_natCast]
   have e2:=i1.len
   simp only[e1,e2]
   ((with_reducible repeat (first|refine Zl (by first|assumption|omega|rfl|exact B_pos (by omega)) ?_|refine Zk (by first|assumption|omega|decide|exact B_not (by omega)) ?_|refine Ze (by first|assumption) ?_|dsimp only));first|done|(with_reducible rfl)|simp (disch:=omega) only[w64]|(show False;done))
 rw[ZkC hW hR i1.len i1.ok hk h6 (b:Int),←hr2]at start
 obtain⟨u,⟨u1,u2⟩,u3,u4,u5,u6⟩:=ZkH (out:=out) (best:=(b:Int)) m2 m12 hW hR i2.len i2.ok hk (by omega) hx h7 (by rw[hb])
 rw[u6,ZjH m2 m12 hW hR i2.len i2.ok hk (by omega) u1 u2]at start
 obtain⟨v,huv⟩:=ZgQ m2 m12 (by omega) u2 u3
 obtain⟨r3,hr3⟩:∃r3,r3=r2.set k (mix m u (row r2 (k:Int)) 0 (row r2 (k:Int))):=⟨_,rfl⟩
 have i3:RI m W R k out r r3:=i2.trans (by rw[hr3];exact Znw (by omega) i2.len i2.ok h.oo h.kR (Nat.le_refl _) (by omega) huv)
 rw[←hr3]at start
 have lk2:=(i2.ok k (by have:=i2.len;omega)).1
 have c3:rd (row r3 (k:Int)) (k:Int)=(b:Int):=by
  rw[hr3,ZaD (by have:=i2.len;omega),Zbw (by omega),←hx,Int.zero_mul,Int.add_zero,Int.mul_comm];exact u4
 obtain⟨r4,f4,a1,a2,a3,a4,a5,a6,a7⟩:=ZkF m2 m12 hW hR hk h.oo (best:=(b:Int)) (by omega) (by omega) (R - (k+1)) (k+1) r3 true (by omega) (by omega) i3.len i3.ok c3
 have i4:=i3.trans a2
 obtain⟨r5,f5,b1,b2,b3,b4,b5⟩:=ZjE (k:=k) (out:=out) m2 m12 hW hR (by omega) (best:=(b:Int)) (by omega) (by omega) (W - (k+1)) (k+1) r4 f4 (by omega) (by omega) i4.len i4.ok (by rw[a3];exact c3)
 have i5:=i4.trans b2
 rw[a1,b1]at start
 have hmin:∀g,Pp m W R k r g→b≤g:=fun g ⟨i,c,q1,q2,q3,q4,q5,q6⟩=>by
  have:=h9 i c ⟨q1,q2,q3,q4⟩ q5
  omega
 have hQ:Qq m W R k r b→∃c:Nat,k < c∧c < W∧¬ rd (row r5 (k:Int)) (c:Int)=0:=fun q=>by
  have e:A=k∧C=k:=h10 ⟨Nat.le_refl _,by omega,Nat.le_refl _,hk⟩ (by rw[q.at_];omega) (by
   rw[q.at_]
   exact Int.le_of_dvd (by omega) (Int.gcd_dvd_left ..))
  obtain⟨e1,e2⟩:=e
  subst e1
  have g1:r1=r:=by rw[hr1,Zbe,Zbe]
  have g2:r2=r:=by rw[hr2,g1,e2,show swk A A=id from funext fun x=>Zjk A x,List.map_id]
  have g3:r3=r:=by
   rw[hr3,g2,u5 (by rw[e2];exact q.at_)]
   have:mix m 1 (row r (A:Int)) 0 (row r (A:Int))=row r (A:Int):=Zi7 (ok A (by omega)).2
   rw[this,Zbe]
  obtain⟨c,w1,w2,w3⟩:=q.row
  refine⟨c,w1,w2,fun w=>w3 ?_⟩
  rw[b4 c (by omega) w2,a3,g3]at w
  exact Int.dvd_of_emod_eq_zero w
 have below:∀i:Nat,k < i→i < R→rd (row r5 (i:Int)) (k:Int)=rd (row r3 (i:Int)) (k:Int)%(b:Int):=fun i q1 q2=>by rw[b3 i k q2 (by omega),a5 i (by omega) q2]
 have right:∀c:Nat,k < c→c < W→rd (row r5 (k:Int)) (c:Int)=rd (row r3 (k:Int)) (c:Int)%(b:Int):=fun c q1 q2=>by rw[b4 c (by omega) q2,a3]
 have corner:rd (row r5 (k:Int)) (k:Int)=(b:Int):=by rw[b3 k k (by omega) (by omega),a3];exact c3
 have bpos:0 < (b:Int):=by omega
 have exitP:(∃i c:Nat,k≤i∧i < R∧k≤c∧c < W∧¬ rd (row r5 (i:Int)) (c:Int)=0∧rd (row r5 (i:Int)) (c:Int) < (b:Int))→Pp m W R k r5 (b - 1):=fun⟨i,c,q1,q2,q3,q4,q5,q6⟩ => .of i5.ok i5.len q1 q2 q3 q4 q5 q6
 cases f5 with
 | false =>
  refine⟨b,r5,b0,hmin,.inl ⟨?_,h.ri i5,.inl (exitP ?_)⟩⟩
  ·
   rw[start,Za.l11_eq]
   ((with_reducible repeat (first|refine Zl (by first|assumption|omega|rfl|exact B_pos (by omega)) ?_|refine Zk (by first|assumption|omega|decide|exact B_not (by omega)) ?_|refine Ze (by first|assumption) ?_|dsimp only));first|done|(with_reducible rfl)|simp (disch:=omega) only[w64]|(show False;done))
  ·
   by_cases z1:∀i:Nat,k < i→i < R→rd (row r5 (i:Int)) (k:Int)=0
   ·
    by_cases z2:∀c:Nat,k < c→c < W→rd (row r5 (k:Int)) (c:Int)=0
    ·
     exfalso
     have:f4=true:=a6.2 ⟨rfl,fun j q1 q2=>by rw[←b3 j k q2 (by omega)];exact z1 j (by omega) q2⟩
     have:=b5.2 ⟨this,fun j q1 q2=>z2 j (by omega) q2⟩
     cases this
    ·
     obtain⟨c,hc⟩:=Classical.not_forall.1 z2
     obtain⟨q1,hc⟩:=Classical.not_imp.1 hc
     obtain⟨q2,hc⟩:=Classical.not_imp.1 hc
     exact⟨k,c,Nat.le_refl _,by omega,by omega,q2,hc,by rw[right c q1 q2];exact Int.emod_lt_of_pos _ bpos⟩
   ·
    obtain⟨i,hi⟩:=Classical.not_forall.1 z1
    obtain⟨q1,hi⟩:=Classical.not_imp.1 hi
    obtain⟨q2,hi⟩:=Classical.not_imp.1 hi
    exact⟨i,k,by omega,q2,Nat.le_refl _,hk,hi,by rw[below i q1 q2];exact Int.emod_lt_of_pos _ bpos⟩
 | true =>
  obtain⟨t1,t2⟩:=b5.1 rfl
  obtain⟨_,t3⟩:=a6.1 t1
  have z1:∀i:Nat,k < i→i < R→rd (row r5 (i:Int)) (k:Int)=0:=fun i q1 q2=>by rw[b3 i k q2 (by omega)];exact t3 i (by omega) q2
  have z2:∀c:Nat,k < c→c < W→rd (row r5 (k:Int)) (c:Int)=0:=fun c q1 q2=>t2 c (by omega) q2
  have nQ:¬ Qq m W R k r b:=fun q=>by
   obtain⟨c,q1,q2,q3⟩:=hQ q
   exact q3 (z2 c q1 q2)
  have D5:=h.ri i5
  have start2:Za.l2 m (W:Int) r out=Za.l13 m (W:Int) (k:Int) true ((k+1:Nat):Int) r5 out (b:Int):=by
   rw[start,Za.l11_eq,wn (j:=k) (by omega)]
   ((with_reducible repeat (first|refine Zl (by first|assumption|omega|rfl|exact B_pos (by omega)) ?_|refine Zk (by first|assumption|omega|decide|exact B_not (by omega)) ?_|refine Ze (by first|assumption) ?_|dsimp only));first|done|(with_reducible rfl)|simp (disch:=omega) only[w64]|(show False;done))
  rcases diag_last (k:=k) (out:=out) (best:=(b:Int)) m2 m12 hW hR (by omega) bpos i5.len i5.ok (by omega) (R - (k+1)) (k+1) (by omega) (by omega) (fun j c q1 q2 q3=>by omega)with ⟨j,c,q1,q2,q3,q4,q5⟩|⟨q1,q2⟩
  ·
   have i6:RI m W R k out r5 (r5.set k (mix m 1 (row r5 (k:Int)) 1 (row r5 (j:Int)))):=ZmK (by omega) i5.len i5.ok h.oo h.kR (Nat.le_refl _) (by omega) (by omega) q2 (by omega) 1
   obtain⟨lk5,_⟩:=i5.ok k (by have:=i5.len;omega)
   have e:∀c:Nat,c < W→rd (row (r5.set k (mix m 1 (row r5 (k:Int)) 1 (row r5 (j:Int)))) (k:Int)) (c:Int)=(rd (row r5 (k:Int)) (c:Int)+rd (row r5 (j:Int)) (c:Int))%m:=fun c hc=>by
    rw[ZaD (by have:=i5.len;omega),Zbw (by omega),Int.one_mul,Int.one_mul]
   refine⟨b,_,b0,hmin,.inl ⟨start2.trans q5,D5.ri i6,.inr ⟨⟨?_,b0,bm,fun i w1 w2 => ?_,c,?_,q3,?_⟩,nQ⟩⟩⟩
   ·
    rw[e k hk,corner,z1 j q1 q2,Int.add_zero];exact Int.emod_eq_of_lt (by omega) (by omega)
   ·
    rw[Za5 (by omega)];exact z1 i w1 w2
   ·
    by_cases w1:c < k
    ·
     exact absurd (by rw[D5.zer j c (by omega) q2 w1];exact Int.dvd_zero _) q4
    ·
     by_cases w2:c=k
     ·
      exact absurd (by rw[w2,z1 j q1 q2];exact Int.dvd_zero _) q4
     ·
      omega
   ·
    intro hd
    rw[e c q3]at hd
    apply q4
    have w1:rd (row r5 (k:Int)) (c:Int)=0:=by
     by_cases w1:c < k
     ·
      exact D5.zer k c (Nat.le_refl _) (by omega) w1
     ·
      by_cases w2:c=k
      ·
       exact absurd (by rw[w2,z1 j q1 q2];exact Int.dvd_zero _) q4
      ·
       exact z2 c (by omega) q3
    obtain⟨w2,w3⟩:=i5.ok.bd (i:=j) (k:=c) (by have:=i5.len;omega) q3
    rwa[w1,Int.zero_add,Int.emod_eq_of_lt w2 w3]at hd
  ·
   refine⟨b,r5,b0,hmin,.inr ⟨start2.trans q2,?_⟩⟩
   have l1:([(b:Int)]:List Int).length=1:=rfl
   have la:(out++[(b:Int)]).length=k+1:=by rw[List.length_append,l1,ol]
   have r5l:=i5.len
   have rowk:row r5 (k:Int)=dgr W k (b:Int):=by
    obtain⟨w1,w2⟩:=i5.ok k (by omega)
    refine Zfg (by rw[w1,ZkB]) fun i i0 i1 => ?_
    obtain⟨n,rfl⟩:=Int.eq_ofNat_of_zero_le i0
    rw[ZiS hk]
    split
    ·
     rename_i e;rw[e];exact corner
    ·
     by_cases w3:n < k
     ·
      exact D5.zer k n (Nat.le_refl _) (by omega) w3
     ·
      exact z2 n (by omega) (by omega)
   have eqL:Lm W (out++[(b:Int)]) r5 (k+1)=Lm W out r5 k:=by
    refine ZkO (by rw[Zcp (by omega),Zcp (by omega)]) fun i i0 i1 => ?_
    rw[Zcp (by omega)]at i1
    obtain⟨n,rfl⟩:=Int.eq_ofNat_of_zero_le i0
    rw[Zc5 (by omega) (by omega),Zc5 (by omega) (by omega)]
    by_cases w:n < k
    ·
     rw[if_pos (by omega),if_pos w,ZmI (by omega)]
    ·
     rw[if_neg w]
     by_cases w2:n=k
     ·
      rw[if_pos (by omega),w2,rowk,←ol,Zip]
     ·
      rw[if_neg (by omega)]
   refine⟨r5l,i5.ok,⟨la,fun n hn => ?_⟩,hk,by omega,by rw[eqL];exact D5.eqd,fun i c w1 w2 w3 => ?_,fun n hn i c w1 w2 w3 => ?_,?_⟩
   ·
    rcases List.mem_append.1 hn with hn|hn
    ·
     exact h.oo.ent n hn
    ·
     rw[List.mem_singleton]at hn
     subst hn
     exact⟨bpos,by omega,bm⟩
   ·
    by_cases w4:c=k
    ·
     rw[w4];exact z1 i (by omega) w2
    ·
     exact D5.zer i c (by omega) w2 (by omega)
   ·
    rcases List.mem_append.1 hn with hn|hn
    ·
     exact D5.dv n hn i c (by omega) w2 w3
    ·
     rw[List.mem_singleton]at hn
     subst hn
     exact q1 i c (by omega) w2 w3
   ·
    rw[List.pairwise_append]
    refine⟨h.pw,List.pairwise_singleton ..,fun a ha z hz => ?_⟩
    rw[List.mem_singleton]at hz
    rw[hz,←corner]
    exact D5.dv a ha k k (Nat.le_refl _) (by omega) hk
end
end Go.Proofs.YtdamfbighdkcbaaGreat.V
namespace Go.Proofs.YtdamfbighdkcbaaGreat.V
open Go.RowKit Go.Proofs.YtdamfbighdkcbaaGreat.D Go.Proofs.YtdamfbighdkcbaaGreat.P
theorem ZhZ {m:Int} {W:Nat} {ns:List Int} (h:∀n∈ns,n∣m) (hl:ns.length=W):Sub m W (fun x=>∀i,i < W→rd ns (i:Int)∣x i) :=
 ⟨fun i _=>Int.dvd_zero _,fun x y hx hy c i hi=>Int.dvd_add (hx i hi) (Int.dvd_mul_of_dvd_right (hy i hi)),fun x y hx k i hi=>by
  have:=Int.dvd_sub (hx i hi) (Int.dvd_trans (h _ (ZcD (i:=(i:Int)) (xs:=ns) (by omega) (by omega))) (k i hi))
  rwa[show x i - (x i - y i)=y i by omega]at this⟩
theorem Dg.of {m:Int} (m0:0 < m):∀(ns:List Int) (W:Nat) (M:Vc→Prop),ns.length=W→(∀n∈ns,0 < n∧n∣m)→(∀x,M x↔∀i,i < W→rd ns (i:Int)∣x i)→Dg m W M ns
 | [],W,M,hl,hn,h=>by
  have:W=0:=hl.symm
  subst this
  exact .nil m0 (by rw[show M=fun x=>∀i:Nat,i < 0→rd [] (i:Int)∣x i from funext fun x=>propext (h x)];exact ZhZ (fun n hn=>by cases hn) rfl)
 | n :: ns,W,M,hl,hn,h=>by
  rw[List.length_cons]at hl
  subst hl
  have s:∀i:Nat,rd (n :: ns) ((i+1:Nat):Int)=rd ns (i:Int):=fun i=>by rw[ZcE,ZcE];rfl
  refine .cons m0 (hn n (List.mem_cons_self ..)).2 (hn n (List.mem_cons_self ..)).1 (M' := fun x=>∀i,i < ns.length→rd ns (i:Int)∣x i) (ZhZ (fun n h=>(hn n (List.mem_cons_of_mem _ h)).2) rfl) (fun x => ?_) (Dg.of m0 ns ns.length _ rfl (fun n h=>hn n (List.mem_cons_of_mem _ h)) fun x=>Iff.rfl)
  rw[h x]
  constructor
  ·
   intro k
   exact⟨k 0 (by omega),fun i hi=>by have:=k (i+1) (by omega);rwa[s]at this⟩
  ·
   rintro⟨k1,k2⟩ i hi
   cases i with
   | zero=>exact k1
   | succ i=>rw[s];exact k2 i (by omega)
section
variable {m:Int} {W R k:Nat} {out:List Int}
theorem Lm_dg (m0:0 < m) {r:List (List Int)} (ho:OutOk m W k out) (hkW:k≤W) (hkR:k≤r.length) (hz:∀i c:Nat,k≤i→i < r.length→c < W→rd (row r (i:Int)) (c:Int)=0):Dg m W (Mx m W (Lm W out r k)) (out++List.replicate (W - k) m):=by
 have ol:=ho.len
 have e1:∀i:Nat,i < k→rd (out++List.replicate (W - k) m) (i:Int)=rd out (i:Int):=fun i hi=>by
  rw[ZcE,ZcE,List.getD_eq_getElem?_getD,List.getD_eq_getElem?_getD,List.getElem?_append_left (by omega)]
 have e2:∀i:Nat,k≤i→i < W→rd (out++List.replicate (W - k) m) (i:Int)=m:=fun i h1 h2=>by
  rw[ZcE,List.getD_eq_getElem?_getD,List.getElem?_append_right (by omega),List.getElem?_replicate,if_pos (by omega)];rfl
 have hn:∀n∈out++List.replicate (W - k) m,0 < n∧n∣m:=fun n hn=>by
  rcases List.mem_append.1 hn with hn|hn
  ·
   exact⟨(ho.ent n hn).1,(ho.ent n hn).2.2⟩
  ·
   rw[(List.mem_replicate.1 hn).2];exact⟨m0,Int.dvd_refl m⟩
 have nl:(out++List.replicate (W - k) m).length=W:=by rw[List.length_append,List.length_replicate];omega
 refine .of m0 _ W _ nl hn fun x=>⟨fun hx => ?_,fun hx => ?_⟩
 ·
  refine(ZhZ (fun n h=>(hn n h).2) nl).all (fun g hg i hi => ?_) hx
  obtain⟨f,hf,rfl⟩:=hg
  obtain⟨q,q0,q1,rfl⟩:=ZcW hf
  obtain⟨n,rfl⟩:=Int.eq_ofNat_of_zero_le q0
  rw[Zcp hkR]at q1
  rw[Zc5 hkR (by omega)]
  by_cases w:n < k
  ·
   rw[if_pos w,V,ZiS (by omega)]
   split
   ·
    rename_i e;subst e;rw[e1 i w];exact Int.dvd_refl _
   ·
    exact Int.dvd_zero _
  ·
   rw[if_neg w,V,hz n i (by omega) (by omega) hi];exact Int.dvd_zero _
 ·
  have H:∀j,j≤k→Mx m W (Lm W out r k) (fun i=>if i < j then x i else 0):=by
   intro j
   induction j with
   | zero=>exact fun _=>Sp.nil.alike fun i _=>Zaw (by rw[if_neg (by omega)])
   | succ j ih =>
    intro hj
    obtain⟨c,hc⟩:rd out (j:Int)∣x j:=by have:=hx j (by omega);rwa[e1 j (by omega)]at this
    have g:=Zbu (m:=m) (W:=W) (r:=Lm W out r k) (i:=j) (by rw[Zcp hkR];omega)
    rw[Zc5 hkR (by omega),if_pos (by omega)]at g
    refine .alike ((ih (by omega)).plus (g.mul c)) fun i hi=>Zaw ?_
    show(if i < j then x i else 0)+c*rd (dgr W j (rd out (j:Int))) (i:Int)=if i < j+1 then x i else 0
    rw[ZiS (by omega)]
    by_cases w:i=j
    ·
     subst w;rw[if_neg (by omega),if_pos rfl,if_pos (by omega),hc,Int.mul_comm];omega
    ·
     rw[if_neg w,Int.mul_zero,Int.add_zero]
     by_cases w2:i < j
     ·
      rw[if_pos w2,if_pos (by omega)]
     ·
      rw[if_neg w2,if_neg (by omega)]
  refine(H k (Nat.le_refl _)).alike fun i hi => ?_
  by_cases w:i < k
  ·
   rw[if_pos w];exact Zaw rfl
  ·
   rw[if_neg w,Int.zero_sub]
   have:=hx i hi
   rw[e2 i (by omega) hi]at this
   exact Int.dvd_neg.2 this
theorem ZkG (m2:2≤m) (m12:m≤12) (hW:W≤1000) (hR:R≤100000) {X:List (List Int)} (hk:k < W):∀(N:Nat) (r:List (List Int)),DI m W R k out X r→(∃i c:Nat,k≤i∧i < R∧k≤c∧c < W∧¬ rd (row r (i:Int)) (c:Int)=0)→((∃g,Qq m W R k r g∧2*g≤N)∨∃g,Pp m W R k r g∧2*g+1≤N) →
  ∃(b:Int) (r' : List (List Int)),Za.l2 m (W:Int) r out=Za.l2 m (W:Int) r' (out++[b])∧DI m W R (k+1) (out++[b]) X r' := by
 intro N
 induction N using Nat.strongRecOn with
 | ind N ih =>
  intro r h hne hN
  obtain⟨b,r', b0,hmin,⟨q1,q2,q3⟩|⟨q1,q2⟩⟩:=ZjG m2 m12 hW hR h hk hne
  ·
   have ne' : ∃i c:Nat,k≤i∧i < R∧k≤c∧c < W∧¬ rd (row r' (i:Int)) (c:Int)=0:=by
    rcases q3 with ⟨i,c,a1,a2,a3,a4,a5,_⟩|⟨q,_⟩
    ·
     exact⟨i,c,a1,a2,a3,a4,a5⟩
    ·
     obtain⟨i,c,a1,a2,_⟩:=hne
     exact⟨k,k,Nat.le_refl _,by omega,Nat.le_refl _,hk,by rw[q.at_];omega⟩
   obtain⟨i0,c0,w1,w2,_⟩:=hne
   have Qp:∀g,Qq m W R k r g→Pp m W R k r g:=fun g q=>⟨k,k,Nat.le_refl _,by omega,Nat.le_refl _,hk,by rw[q.at_];have:=q.pos;omega,by
    rw[q.at_]
    have:((Int.gcd (g:Int) m:Nat):Int)≤(g:Int):=Int.le_of_dvd (by have:=q.pos;omega) (Int.gcd_dvd_left ..)
    omega⟩
   have key:∃N', N' < N∧((∃g,Qq m W R k r' g∧2*g≤N')∨∃g,Pp m W R k r' g∧2*g+1≤N'):=by
    rcases hN with ⟨g,hg,hgN⟩|⟨g,hg,hgN⟩
    ·
     have hb:=hmin g (Qp g hg)
     rcases q3 with p|⟨q,nq⟩
     ·
      exact⟨2*(b - 1)+1,by omega,.inr ⟨b - 1,p,by omega⟩⟩
     ·
      by_cases e:b=g
      ·
       subst e;exact absurd hg nq
      ·
       exact⟨2*b,by omega,.inl ⟨b,q,by omega⟩⟩
    ·
     have hb:=hmin g hg
     rcases q3 with p|⟨q,nq⟩
     ·
      exact⟨2*(b - 1)+1,by omega,.inr ⟨b - 1,p,by omega⟩⟩
     ·
      exact⟨2*b,by omega,.inl ⟨b,q,by omega⟩⟩
   obtain⟨N', hN', hh⟩:=key
   obtain⟨b', r'', z1,z2⟩:=ih N' hN' r' q2 ne' hh
   exact⟨b', r'', q1.trans z1,z2⟩
  ·
   exact⟨(b:Int),r', q1,q2⟩
theorem ZlV (m2:2≤m) (m12:m≤12) (hW:W≤1000) (hR:R≤100000) {X:List (List Int)}:∀(n k:Nat) (out:List Int) (r:List (List Int)),k+n=W→DI m W R k out X r →
  ∃ns r', Za.l2 m (W:Int) r out=some (ns,r')∧ns.length=W∧(∀n∈ns,0 < n∧n∣m)∧(ns.Pairwise fun a b=>a∣b)∧Dg m W (Mx m W X) ns:=by
 have fin:∀(n k:Nat) (out:List Int) (r:List (List Int)),k+n=W→DI m W R k out X r→(∀i c:Nat,k≤i→i < R→k≤c→c < W→rd (row r (i:Int)) (c:Int)=0)→∃ns r', Za.l2 m (W:Int) r out=some (ns,r')∧ns.length=W∧(∀n∈ns,0 < n∧n∣m)∧(ns.Pairwise fun a b=>a∣b)∧Dg m W (Mx m W X) ns:=by
  intro n k out r hn h hz
  have ol:=h.oo.len
  have hl:=h.len
  have kR:=h.kR
  have hf:=ZkD m2 m12 hW hR h.len h.ok n out (by omega) fun i c h1 h2 h3 h4=>hz i c (by omega) h2 (by omega) h4
  have nk:n=W - k:=by omega
  refine⟨_,_,hf,by rw[List.length_append,List.length_replicate];omega,fun a ha => ?_,?_,?_⟩
  ·
   rcases List.mem_append.1 ha with ha|ha
   ·
    exact⟨(h.oo.ent a ha).1,(h.oo.ent a ha).2.2⟩
   ·
    rw[(List.mem_replicate.1 ha).2];exact⟨by omega,Int.dvd_refl m⟩
  ·
   rw[List.pairwise_append]
   refine⟨h.pw,List.pairwise_replicate.2 (.inr (Int.dvd_refl m)),fun a ha b hb => ?_⟩
   rw[(List.mem_replicate.1 hb).2]
   exact(h.oo.ent a ha).2.2
  ·
   rw[nk]
   exact(Lm_dg (by omega) h.oo h.kW (by omega) fun i c h1 h2 h3=>by
    by_cases w:c < k
    ·
     exact h.zer i c h1 (by omega) w
    ·
     exact hz i c h1 (by omega) (by omega) h3).eqd h.eqd
 intro n
 induction n with
 | zero=>exact fun k out r hn h=>fin 0 k out r hn h fun i c _ _ h3 h4=>by omega
 | succ n ih =>
  intro k out r hn h
  by_cases hz:∀i c:Nat,k≤i→i < R→k≤c→c < W→rd (row r (i:Int)) (c:Int)=0
  ·
   exact fin (n+1) k out r hn h hz
  ·
   have ne:∃i c:Nat,k≤i∧i < R∧k≤c∧c < W∧¬ rd (row r (i:Int)) (c:Int)=0:=by
    obtain⟨i,hz⟩:=Classical.not_forall.1 hz
    obtain⟨c,hz⟩:=Classical.not_forall.1 hz
    obtain⟨a1,hz⟩:=Classical.not_imp.1 hz
    obtain⟨a2,hz⟩:=Classical.not_imp.1 hz
    obtain⟨a3,hz⟩:=Classical.not_imp.1 hz
    obtain⟨a4,hz⟩:=Classical.not_imp.1 hz
    exact⟨i,c,a1,a2,a3,a4,hz⟩
   obtain⟨i,c,a1,a2,a3,a4,a5⟩:=ne
   obtain⟨b,r', z1,z2⟩:=ZkG m2 m12 hW hR (by omega) _ r h ⟨i,c,a1,a2,a3,a4,a5⟩ (.inr ⟨Int.gcd (rd (row r (i:Int)) (c:Int)) m,⟨i,c,a1,a2,a3,a4,a5,Nat.le_refl _⟩,Nat.le_refl _⟩)
   rw[z1]
   exact ih (k+1) _ r' (by omega) z2
theorem Zj6 (m2:2≤m) (m12:m≤12) (hW:W≤1000) {X:List (List Int)} (hX:X.length=R) (hR:R≤100000) (hl:∀i:Nat,i < R→(row X (i:Int)).length=W∧∀c:Nat,c < W → -1000000≤rd (row X (i:Int)) (c:Int)∧rd (row X (i:Int)) (c:Int)≤1000000) :
  ∃ns r', Za.f m X (W:Int)=some (ns,r')∧ns.length=W∧(∀n∈ns,0 < n∧n∣m)∧(ns.Pairwise fun a b=>a∣b)∧Dg m W (Mx m W X) ns:=by
 obtain⟨X', hX'⟩:∃X', X' = X.map fun x=>nf m W (V x):=⟨_,rfl⟩
 have l' : X'.length=R:=by rw[hX', List.length_map];exact hX
 have rw' : ∀i:Nat,i < R→row X' (i:Int)=nf m W (V (row X (i:Int))):=fun i hi=>by rw[hX', ZbB _ _ (by omega)]
 have ok:Rok m W X' := fun i hi=>by rw[rw' i (by omega)];exact⟨ZeO ..,nf_in (by omega) _ _⟩
 have eqd:Eqd m W (Mx m W X) (Mx m W X'):=by
  refine Mx_same' (by omega) (fun i hi => ?_) fun i hi => ?_
  ·
   have:=Zbu (m:=m) (W:=W) (r:=X') (i:=i) (by omega)
   rw[rw' i (by omega)]at this
   exact this.alike fun c hc=>Zbo (ZcL hc)
  ·
   rw[rw' i (by omega)]
   exact(Zbu (m:=m) (W:=W) hi).alike fun c hc=>ZcL hc
 obtain⟨ns,r', k1,k2,k3,k4,k5⟩:=ZlV m2 m12 hW hR (X:=X) W 0 [] X' (by omega) ⟨l', ok,⟨rfl,fun n hn=>by cases hn⟩,by omega,by omega,by
  rw[show Lm W [] X' 0=X' by rw[Lm];rfl];exact eqd,fun i c _ _ h=>by omega,fun n hn=>(by cases hn),.nil⟩
 refine⟨ns,r', ?_,k2,k3,k4,k5⟩
 rw[Za.f_eq,hX,ZkE m2 m12 hW hX hR hl,←hX', k1]
end
end Go.Proofs.YtdamfbighdkcbaaGreat.V
namespace Go.Proofs.YtdamfbighdkcbaaGreat.V
open Go.RowKit Go.Proofs.YtdamfbighdkcbaaGreat.D Go.Proofs.YtdamfbighdkcbaaGreat.P
theorem Znt {m:Int} (m2:2≤m) (m12:m≤12) {W:Nat} (hW:W≤100000) {p:List (List Int)} {M:Vc→Prop} (hM:Lead m W p M) {x:List Int} (hx:x.length=W) (ha:AllIn m x) :
  ∃y t,ZJ.f m p x=some (y,t)∧Least0 m W W p M x y t:=by
 have hl:=hM.tab.len
 rw[ZJ.f_eq,hl,Int.toNat_natCast]
 have key:∀k,k≤W→∃y t,ZJ.l0 x p (W:Int) 0 m p (List.replicate W 0)=ZJ.l0 y p (W:Int) (k:Int) m p t∧Least0 m W k p M x y t:=by
  intro k
  induction k with
  | zero=>exact fun _=>⟨_,_,rfl,Least0.begin hM hx ha⟩
  | succ k ih =>
   intro hk
   obtain⟨y,t,h1,h2⟩:=ih (by omega)
   have yl:=h2.len
   have tl:=h2.tlen
   by_cases hr:row p (k:Int)=[]
   ·
    have e0:(row p (k:Int)).length=0:=by rw[hr];rfl
    refine⟨y,t,?_,h2.skip (by omega) hr⟩
    rw[h1,ZJ.l0_eq,wn (j:=k) (by omega)]
    ((with_reducible repeat (first|refine Zl (by first|assumption|omega|rfl|exact B_pos (by omega)) ?_|refine Zk (by first|assumption|omega|decide|exact B_not (by omega)) ?_|refine Ze (by first|assumption) ?_|dsimp only));first|done|(with_reducible rfl)|simp (disch:=omega) only[w64]|(show False;done))
   ·
    have hP:=hM.tab.prow (show k < W by omega) hr
    have pl:=hP.len
    have p0:=hP.pos
    obtain⟨y0,y1⟩:=h2.ent k (by omega) (by omega)
    refine⟨_,_,?_,h2.take m2 m12 hM (by omega) hr⟩
    have hT:T p (k:Int) (k:Int)=rd (row p (k:Int)) (k:Int):=rfl
    have d0:0≤rd y (k:Int) / rd (row p (k:Int)) (k:Int):=Int.ediv_nonneg y0 (by omega)
    have d1:rd y (k:Int) / rd (row p (k:Int)) (k:Int)≤rd y (k:Int):=Int.ediv_le_self _ y0
    have e1:wrapI (Int.tdiv (rd y (k:Int)) (rd (row p (k:Int)) (k:Int)))=rd y (k:Int) / rd (row p (k:Int)) (k:Int):=by rw[ZgP y0];exact w64 (by omega) (by omega)
    have hne:¬ rd (row p (k:Int)) (k:Int)=0:=by omega
    have hsl:(t.set k (rd y (k:Int) / rd (row p (k:Int)) (k:Int))).length=W:=by rw[List.length_set];exact tl
    have hc:=combined m2 m12 (p:=p) (x:=1) (y := -(rd y (k:Int) / rd (row p (k:Int)) (k:Int))) h2.ent hP.ent (by omega) (by omega) (by omega) (by omega) (by omega) (by omega)
    have e2:wrapI (0 - rd y (k:Int) / rd (row p (k:Int)) (k:Int)) = -(rd y (k:Int) / rd (row p (k:Int)) (k:Int)):=by rw[w64 (by omega) (by omega)];omega
    rw[h1,ZJ.l0_eq,wn (j:=k) (by omega),hT,e1,Int.toNat_natCast,Zbd (by omega),e2]
    ((with_reducible repeat (first|refine Zl (by first|assumption|omega|rfl|exact B_pos (by omega)) ?_|refine Zk (by first|assumption|omega|decide|exact B_not (by omega)) ?_|refine Ze (by first|assumption) ?_|dsimp only));first|done|(with_reducible rfl)|simp (disch:=omega) only[w64]|(show False;done))
 obtain⟨y,t,h1,h2⟩:=key W (Nat.le_refl _)
 refine⟨y,t,?_,h2⟩
 (with_reducible repeat (first|refine Zl (by first|assumption|omega|rfl|exact B_pos (by omega)) ?_|refine Zk (by first|assumption|omega|decide|exact B_not (by omega)) ?_|refine Ze (by first|assumption) ?_|dsimp only))
 rw[h1,ZJ.l0_eq]
 ((with_reducible repeat (first|refine Zl (by first|assumption|omega|rfl|exact B_pos (by omega)) ?_|refine Zk (by first|assumption|omega|decide|exact B_not (by omega)) ?_|refine Ze (by first|assumption) ?_|dsimp only));first|done|(with_reducible rfl)|simp (disch:=omega) only[w64]|(show False;done))
theorem lc_at {m:Int} {W:Nat} {p:List (List Int)} (ht:PTab m W p) {t:List Int} (hn:∀j:Nat,row p (j:Int)=[]→rd t (j:Int)=0) {i:Nat} (hz:∀j:Nat,j < i→rd t (j:Int)=0):∀k,k≤W→lc p t k i=if i < k then rd t (i:Int)*rd (row p (i:Int)) (i:Int)else 0:=by
 intro k
 induction k with
 | zero=>intro _;rfl
 | succ k ih =>
  intro hk
  rw[ZdO,ih (by omega)]
  by_cases h:i < k
  ·
   rw[if_pos h,if_pos (by omega)]
   by_cases hr:row p (k:Int)=[]
   ·
    rw[hn k hr,Int.zero_mul,Int.add_zero]
   ·
    rw[(ht.prow (by omega) hr).zero i h,Int.mul_zero,Int.add_zero]
  ·
   rw[if_neg h]
   by_cases e:i=k
   ·
    subst e;rw[if_pos (by omega),Int.zero_add]
   ·
    rw[if_neg (by omega),hz k (by omega),Int.zero_mul];rfl
theorem Least0.low {m:Int} {W:Nat} {p:List (List Int)} {M:Vc→Prop} {x y t:List Int} (ht:PTab m W p) (h:Least0 m W W p M x y t) {J:Nat} (hJ:J≤W) (hx:∀i:Nat,i < J→rd x (i:Int)=0):∀n,n≤J→∀i:Nat,i < n→rd t (i:Int)=0:=by
 intro n
 induction n with
 | zero=>intro _ i hi;omega
 | succ n ih =>
  intro hn i hi
  by_cases e:i=n
  ·
   subst e
   have z:=ih (by omega)
   by_cases hr:row p (i:Int)=[]
   ·
    exact h.tnil i hr
   ·
    have hP:=ht.prow (show i < W by omega) hr
    have p0:=hP.pos
    have k1:=h.tak i (by omega)
    have k2:=h.lt i (by omega)
    have k3:=h.tlt i (by omega)
    obtain⟨t0,_⟩:=h.tbd i (by omega)
    obtain⟨y0,y1⟩:=h.ent (i:Int) (by omega) (by have:=h.len;omega)
    rw[lc_at ht h.tnil z W (Nat.le_refl _),if_pos (by omega),hx i (by omega)]at k1
    rw[show dv m p i=rd (row p (i:Int)) (i:Int)from if_neg hr]at k2
    obtain⟨d,hd⟩:∃d,d=rd (row p (i:Int)) (i:Int):=⟨_,rfl⟩
    obtain⟨τ,hτ⟩:∃τ,τ = rd t (i:Int):=⟨_,rfl⟩
    rw[←hd]at k1 k2 k3 p0
    rw[←hτ]at k1 k3 t0 ⊢
    have hdm:d∣m:=by rw[hd];exact hP.dvd
    have dy:d∣rd y (i:Int):=by
     have:=Int.dvd_add (Int.dvd_trans hdm k1) (Int.dvd_mul_left τ d)
     rw[show 0 - rd y (i:Int) - τ * d + τ * d = -rd y (i:Int)by omega]at this
     exact Int.dvd_neg.1 this
    have y00:rd y (i:Int)=0:=by
     by_cases q:rd y (i:Int)=0
     ·
      exact q
     ·
      have:=Int.le_of_dvd (by omega) dy;omega
    rw[y00]at k1
    have k1:m ∣ τ * d:=by
     rw[show(0:Int) - 0 - τ * d = -(τ * d)by omega]at k1
     exact Int.dvd_neg.1 k1
    have q0:0 ≤ τ * d:=Int.mul_nonneg t0 (by omega)
    have : τ * d=0:=by
     by_cases q : τ * d=0
     ·
      exact q
     ·
      have:=Int.le_of_dvd (by omega) k1;omega
    rcases Int.mul_eq_zero.1 this with q|q
    ·
     exact q
    ·
     omega
  ·
   exact ih (by omega) i (by omega)
def All2 (P:Nat→List Int→Prop) (l:List Nat) (o:List (List Int)):Prop:=o.length=l.length∧∀k,k < l.length→P (l.getD k 0) (row o (k:Int))
theorem All2.nil (P:Nat→List Int→Prop):All2 P [] []:=⟨rfl,fun k hk=>absurd hk (Nat.not_lt_zero _)⟩
theorem Zcf {a b:List (List Int)} {k:Nat} (h:k < a.length):row (a++b) (k:Int)=row a (k:Int):=by
 rw[Zbf (by rw[List.length_append];omega),Zbf h,List.getElem_append_left h]
theorem Zb6 {a b:List (List Int)} {k:Nat} (h:k < b.length):row (a++b) ((a.length+k:Nat):Int)=row b (k:Int):=by
 rw[Zbf (by rw[List.length_append];omega),Zbf h,List.getElem_append_right (by omega)]
 congr 1
 omega
theorem All2.snoc {P:Nat→List Int→Prop} {l:List Nat} {o:List (List Int)} (h:All2 P l o) {a:Nat} {x:List Int} (hx:P a x):All2 P (l++[a]) (o++[x]):=by
 obtain⟨h1,h2⟩:=h
 refine⟨by rw[List.length_append,List.length_append,h1];rfl,fun k hk => ?_⟩
 rw[List.length_append]at hk
 have l1:([a]:List Nat).length=1:=rfl
 by_cases e:k < l.length
 ·
  rw[Zcf (by omega),List.getD_eq_getElem?_getD,List.getElem?_append_left e,←List.getD_eq_getElem?_getD]
  exact h2 k e
 ·
  have ek:k=l.length:=by omega
  subst ek
  have:=Zb6 (a:=o) (b:=[x]) (k:=0) (by show 0 < 1;omega)
  rw[Nat.add_zero,h1]at this
  rw[this,List.getD_eq_getElem?_getD,List.getElem?_append_right (Nat.le_refl _),Nat.sub_self]
  exact hx
structure RelR (m:Int) (W:Nat) (z:List (List Int)) (j:Nat) (t:List Int):Prop where
 len:t.length=W
 bd:∀i:Nat,i < W → -12≤rd t (i:Int)∧rd t (i:Int)≤12
 low:∀i:Nat,i < j→rd t (i:Int)=0
 at_:rd t (j:Int)=m / rd (row z (j:Int)) (j:Int)
 ker:∀i,i < W→m∣lc z t W i
structure RelT (m:Int) (W:Nat) (z b:List (List Int)) (j:Nat) (t:List Int):Prop where
 len:t.length=W
 bd:∀i:Nat,i < W → -12≤rd t (i:Int)∧rd t (i:Int)≤12
 eq:∀i:Nat,i < W→m∣lc z t W i - rd (row b (j:Int)) (i:Int)
theorem ZmE {z:List (List Int)} {t t' : List Int} {j:Nat} {q:Int} {i:Nat}:∀W,(∀k:Nat,k < W→rd t' (k:Int) = -rd t (k:Int)+if k=j then q else 0)→lc z t' W i = -lc z t W i+if j < W then q*rd (row z (j:Int)) (i:Int)else 0
 | 0,_=>by rfl
 | W+1,h=>by
  rw[ZdO,ZdO,ZmE W fun k hk=>h k (by omega),h W (by omega)]
  by_cases e:W=j
  ·
   subst e
   rw[if_neg (by omega),if_pos rfl,if_pos (by omega),Int.add_mul,Int.neg_mul]
   omega
  ·
   rw[if_neg e,Int.add_zero,Int.neg_mul]
   by_cases e2:j < W
   ·
    rw[if_pos e2,if_pos (by omega)];omega
   ·
    rw[if_neg e2,if_neg (by omega)];omega
section
variable {m:Int} {W:Nat} {z b:List (List Int)} {Z Bs:Vc→Prop}
theorem rel_t (m2:2≤m) (m12:m≤12) (hW:W≤1000) (hz:Lead m W z Z) {x:List Int} (hx:x.length=W) (ha:AllIn m x) (hZ:Z (V x)):∃y t,ZJ.f m z x=some (y,t)∧t.length=W∧(∀i:Nat,i < W→0≤rd t (i:Int)∧rd t (i:Int)≤12)∧(∀i:Nat,i < W→m∣rd x (i:Int) - lc z t W i)∧∀J,J≤W→(∀i:Nat,i < J→rd x (i:Int)=0)→∀i:Nat,i < J→rd t (i:Int)=0:=by
 obtain⟨y,t,h1,h2⟩:=Znt m2 m12 (by omega) hz hx ha
 refine⟨y,t,h1,h2.tlen,h2.tbd,fun i hi => ?_,fun J hJ h0=>h2.low hz.tab hJ h0 J (Nat.le_refl _)⟩
 have:=h2.tak i hi
 rwa[(Least.zero_iff (by omega) hz h2.fin).2 hZ (i:Int) (by omega) (by have:=h2.len;omega),Int.sub_zero]at this
theorem rel_r (m2:2≤m) (m12:m≤12) (hW:W≤1000) (hz:Lead m W z Z) {j:Nat} (hj:j < W) (hr:row z (j:Int)≠[]):∃y t,ZJ.f m z (mix m (m / rd (row z (j:Int)) (j:Int)) (row z (j:Int)) 0 (row z (j:Int)))=some (y,t)∧t.length=W∧(∀i:Nat,i < W→0≤rd t (i:Int)∧rd t (i:Int)≤12)∧rd t (j:Int)=0∧RelR m W z j ((t.map fun n => -n).set j (m / rd (row z (j:Int)) (j:Int))):=by
 have hP:=hz.tab.prow hj hr
 have hl:=hP.len
 obtain⟨r,hr'⟩:∃r,r=row z (j:Int):=⟨_,rfl⟩
 obtain⟨d,hd⟩:∃d,d=rd r (j:Int):=⟨_,rfl⟩
 have p0:=hP.pos
 have p1:=hP.lt
 have pd:=hP.dvd
 have p2:=hP.zero
 have pe:=hP.ent
 rw[←hr']at hl p0 p1 pd p2 pe ⊢
 rw[←hd]at p0 p1 pd ⊢
 obtain⟨q,hq⟩:=pd
 have hmq:m / d=q:=by rw[hq];exact Int.mul_ediv_cancel_left _ (by omega)
 rw[hmq]
 have q0:0 < q:=by
  rcases Int.lt_or_le 0 q with h|h
  ·
   exact h
  ·
   have:=Int.mul_nonneg (show 0≤d by omega) (show 0 ≤ -q by omega)
   rw[Int.mul_neg]at this
   omega
 have q1:q≤12:=by
  have:=Int.le_of_dvd (show 0 < m by omega) (show q∣m from⟨d,by rw[hq,Int.mul_comm]⟩)
  omega
 have hv:Z (V (mix m q r 0 r)):=mix_V (by omega) hl hz.sub (by rw[hr'];exact hz.own j hj hr) (by rw[hr'];exact hz.own j hj hr)
 obtain⟨y,t,h1,h2,h3,h4,h5⟩:=rel_t m2 m12 hW hz (x:=mix m q r 0 r) (by rw[Za4];exact hl) (Zb2 (by omega)) hv
 have tz:=h5 (j+1) (by omega) fun i hi=>by
  rw[Zbw (by omega),Int.zero_mul,Int.add_zero]
  by_cases e:i=j
  ·
   rw[e,←hd,Int.mul_comm,←hq,Int.emod_self]
  ·
   rw[p2 i (by omega),Int.mul_zero];rfl
 have ml:(t.map fun n => -n).length=W:=by rw[List.length_map];exact h2
 have rdn:∀i:Nat,i < W→rd ((t.map fun n => -n).set j q) (i:Int) = -rd t (i:Int)+if i=j then q else 0:=fun i hi=>by
  by_cases e:i=j
  ·
   subst e;rw[Zbd (by omega),if_pos rfl,tz i (by omega)];omega
  ·
   rw[Zbk e,if_neg e,Zbi (by omega),Zbi (show i < t.length by omega),List.getElem_map,Int.add_zero]
 refine⟨y,t,h1,h2,h3,tz j (by omega),by rw[List.length_set];exact ml,fun i hi => ?_,fun i hi => ?_,?_,fun i hi => ?_⟩
 ·
  rw[rdn i hi]
  have:=h3 i hi
  by_cases e:i=j
  ·
   rw[if_pos e,e,tz j (by omega)];omega
  ·
   rw[if_neg e];omega
 ·
  rw[rdn i (by omega),if_neg (by omega),tz i (by omega)];rfl
 ·
  rw[Zbd (by omega),←hr', ←hd,hmq]
 ·
  rw[ZmE (t:=t) (j:=j) (q:=q) W rdn,if_pos hj,←hr']
  have k1:=h4 i hi
  have k2:=ZbC (m:=m) (x:=q) (a:=r) (y:=0) (b:=r) (i:=i) (by omega)
  have:=Int.dvd_add k1 k2
  rw[Int.zero_mul,Int.add_zero]at this
  rwa[show ∀a b c:Int,a - b+(c - a) = -b+c from fun a b c=>by omega]at this
theorem Zjt (m2:2≤m) (m12:m≤12) (hW:W≤1000) (hz:Lead m W z Z) (hb:Lead m W b Bs) (hBZ:∀x,Bs x→Z x) (mb:Int):∃A B,Zm.f m z mb b=some (A++B)∧All2 (RelR m W z) (nn z W) A∧All2 (RelT m W z b) (nn b W) B:=by
 have zl:=hz.tab.len
 have bl:=hb.tab.len
 have second:∀(A:List (List Int)),A.length≤1000→∀(n j:Nat) (B:List (List Int)),j+n=W→All2 (RelT m W z b) (nn b j) B→∃B', Zm.l2 b (W:Int) (j:Int) m z (A++B)=some (A++B')∧All2 (RelT m W z b) (nn b W) B' := by
  intro A hA n
  induction n with
  | zero =>
   intro j B hj hB
   have:j=W:=by omega
   subst this
   refine⟨B,?_,hB⟩
   rw[Zm.l2_eq]
   ((with_reducible repeat (first|refine Zl (by first|assumption|omega|rfl|exact B_pos (by omega)) ?_|refine Zk (by first|assumption|omega|decide|exact B_not (by omega)) ?_|refine Ze (by first|assumption) ?_|dsimp only));first|done|(with_reducible rfl)|simp (disch:=omega) only[w64]|(show False;done))
  | succ n ih =>
   intro j B hj hB
   have Bl:=hB.1
   have nb:=nn_le b j
   by_cases hr:row b (j:Int)=[]
   ·
    have e0:(row b (j:Int)).length=0:=by rw[hr];rfl
    obtain⟨B', k1,k2⟩:=ih (j+1) B (by omega) (by rw[Zdn,if_neg (fun q=>q hr),List.append_nil];exact hB)
    refine⟨B', ?_,k2⟩
    rw[←k1,Zm.l2_eq,wn (j:=j) (by omega)]
    ((with_reducible repeat (first|refine Zl (by first|assumption|omega|rfl|exact B_pos (by omega)) ?_|refine Zk (by first|assumption|omega|decide|exact B_not (by omega)) ?_|refine Ze (by first|assumption) ?_|dsimp only));first|done|(with_reducible rfl)|simp (disch:=omega) only[w64]|(show False;done))
   ·
    have hP:=hb.tab.prow (show j < W by omega) hr
    have pl:=hP.len
    obtain⟨y,t,h1,h2,h3,h4,h5⟩:=rel_t m2 m12 hW hz (x:=row b (j:Int)) pl hP.ent (hBZ _ (hb.own j (by omega) hr))
    have ht:RelT m W z b j t:=⟨h2,fun i hi=>by have:=h3 i hi;omega,fun i hi=>Zbo (h4 i hi)⟩
    obtain⟨B', k1,k2⟩:=ih (j+1) (B++[t]) (by omega) (by rw[Zdn,if_pos hr];exact hB.snoc ht)
    refine⟨B', ?_,k2⟩
    have l1:([t]:List (List Int)).length=1:=rfl
    have la:(A++B).length=A.length+B.length:=List.length_append
    rw[←k1,Zm.l2_eq,wn (j:=j) (by omega),←List.append_assoc]
    simp only[h1,Option.bind_some]
    ((with_reducible repeat (first|refine Zl (by first|assumption|omega|rfl|exact B_pos (by omega)) ?_|refine Zk (by first|assumption|omega|decide|exact B_not (by omega)) ?_|refine Ze (by first|assumption) ?_|dsimp only));first|done|(with_reducible rfl)|simp (disch:=omega) only[w64]|(show False;done))
 have first:∀(n j:Nat) (A:List (List Int)),j+n=W→All2 (RelR m W z) (nn z j) A→∃A', Zm.l0 z (W:Int) (j:Int) m z mb b A=Zm.l2 b (W:Int) 0 m z A' ∧ All2 (RelR m W z) (nn z W) A' := by
  intro n
  induction n with
  | zero =>
   intro j A hj hA
   have:j=W:=by omega
   subst this
   refine⟨A,?_,hA⟩
   rw[Zm.l0_eq,bl]
   ((with_reducible repeat (first|refine Zl (by first|assumption|omega|rfl|exact B_pos (by omega)) ?_|refine Zk (by first|assumption|omega|decide|exact B_not (by omega)) ?_|refine Ze (by first|assumption) ?_|dsimp only));first|done|(with_reducible rfl)|simp (disch:=omega) only[w64]|(show False;done))
  | succ n ih =>
   intro j A hj hA
   have Al:=hA.1
   have nz:=nn_le z j
   by_cases hr:row z (j:Int)=[]
   ·
    have e0:(row z (j:Int)).length=0:=by rw[hr];rfl
    obtain⟨A', k1,k2⟩:=ih (j+1) A (by omega) (by rw[Zdn,if_neg (fun q=>q hr),List.append_nil];exact hA)
    refine⟨A', ?_,k2⟩
    rw[←k1,Zm.l0_eq,wn (j:=j) (by omega)]
    ((with_reducible repeat (first|refine Zl (by first|assumption|omega|rfl|exact B_pos (by omega)) ?_|refine Zk (by first|assumption|omega|decide|exact B_not (by omega)) ?_|refine Ze (by first|assumption) ?_|dsimp only));first|done|(with_reducible rfl)|simp (disch:=omega) only[w64]|(show False;done))
   ·
    have hP:=hz.tab.prow (show j < W by omega) hr
    have pl:=hP.len
    obtain⟨y,t,h1,h2,h3,h4,h5⟩:=rel_r m2 m12 hW hz (show j < W by omega) hr
    obtain⟨A', k1,k2⟩:=ih (j+1) (A++[(t.map fun n => -n).set j (m / rd (row z (j:Int)) (j:Int))]) (by omega) (by rw[Zdn,if_pos hr];exact hA.snoc h5)
    refine⟨A', ?_,k2⟩
    have p0:=hP.pos
    have hT:T z (j:Int) (j:Int)=rd (row z (j:Int)) (j:Int):=rfl
    obtain⟨d,hd⟩:∃d,d=rd (row z (j:Int)) (j:Int):=⟨_,rfl⟩
    obtain⟨r,hr'⟩:∃r,r=row z (j:Int):=⟨_,rfl⟩
    have pe:=hP.ent
    rw[←hr']at pl pe h1 hd p0
    rw[←hd]at p0
    rw[←hr', ←hd]at hT
    obtain⟨q,hq⟩:∃q,q=m / d:=⟨_,rfl⟩
    have w1:wrapI (Int.tdiv m d)=q∧0≤q∧q≤m:=by
     have:=w_div (x:=m) (g:=d) (by omega) (by omega) (by omega)
     rw[←hq]at this;exact this
    obtain⟨w1,w2,w3⟩:=w1
    rw[←hr', ←hd,←hq]at k1
    rw[←hd,←hq]at h1
    have hc:=combined m2 m12 (p:=z) (x:=q) (y:=0) pe pe rfl (by omega) (by omega) (by omega) (by omega) (by omega)
    obtain⟨F,hF⟩:∃F,F=t.map fun n => -n:=⟨_,rfl⟩
    have Fl:F.length=t.length:=by rw[hF,List.length_map]
    have neg:=up W (fun c=>Zm.l1 (j:Int) r z (W:Int) (j:Int) (W:Int) (c:Int) m z mb b A (upd1 F t c)) (fun c hc=>by
     have l1:=Zeh Fl c
     have b0:=h3 c hc
     have e1:wrapI (0 - rd t (c:Int))=rd F (c:Int):=by
      rw[w64 (by omega) (by omega),hF,Zbi (show c < (t.map fun n => -n).length by rw[List.length_map];omega),List.getElem_map,←Zbi (show c < t.length by omega)];omega
     rw[Zm.l1_eq,wn (j:=c) (by omega),ZfG Fl (by omega),e1,Int.toNat_natCast,Zdv Fl (by omega)]
     ((with_reducible repeat (first|refine Zl (by first|assumption|omega|rfl|exact B_pos (by omega)) ?_|refine Zk (by first|assumption|omega|decide|exact B_not (by omega)) ?_|refine Ze (by first|assumption) ?_|dsimp only));first|done|(with_reducible rfl)|simp (disch:=omega) only[w64]|(show False;done)))
    rw[Zdw,show upd1 F t W=F by rw[←h2];exact Zeg Fl]at neg
    have neg:Zm.l1 (j:Int) r z (W:Int) (j:Int) (W:Int) 0 m z mb b A t=_:=neg
    have Fj:rd F (j:Int)=0:=by
     rw[hF,Zbi (show j < (t.map fun n => -n).length by rw[List.length_map];omega),List.getElem_map,←Zbi (show j < t.length by omega),h4];rfl
    have e3:wrapI (0+q)=q:=by rw[Int.zero_add];exact w64 (by omega) (by omega)
    have l1:([F.set j q]:List (List Int)).length=1:=rfl
    have fin:Zm.l1 (j:Int) r z (W:Int) (j:Int) (W:Int) (W:Int) m z mb b A F=Zm.l0 z (W:Int) ((j+1:Nat):Int) m z mb b (A++[F.set j q]):=by
     rw[Zm.l1_eq,wn (j:=j) (by omega),Fj,←hd,w1,e3]
     simp only[Int.toNat_natCast]
     ((with_reducible repeat (first|refine Zl (by first|assumption|omega|rfl|exact B_pos (by omega)) ?_|refine Zk (by first|assumption|omega|decide|exact B_not (by omega)) ?_|refine Ze (by first|assumption) ?_|dsimp only));first|done|(with_reducible rfl)|simp (disch:=omega) only[w64]|(show False;done))
    rw[←k1,←hF,←fin,←neg,Zm.l0_eq,hT,w1,←hr', hc,Option.bind_some,h1]
    simp only[Option.bind_some,h2]
    ((with_reducible repeat (first|refine Zl (by first|assumption|omega|rfl|exact B_pos (by omega)) ?_|refine Zk (by first|assumption|omega|decide|exact B_not (by omega)) ?_|refine Ze (by first|assumption) ?_|dsimp only));first|done|(with_reducible rfl)|simp (disch:=omega) only[w64]|(show False;done))
 obtain⟨A,a1,a2⟩:=first W 0 [] (by omega) (All2.nil _)
 have nz:=nn_le z W
 obtain⟨B,b1,b2⟩:=second A (by have:=a2.1;omega) W 0 [] (by omega) (All2.nil _)
 refine⟨A,B,?_,a2,b2⟩
 rw[Zm.f_eq,zl]
 have a1:Zm.l0 z (W:Int) 0 m z mb b []=_:=a1
 have b1:Zm.l2 b (W:Int) 0 m z (A++[])=_:=b1
 rw[List.append_nil]at b1
 rw[a1,b1]
end
end Go.Proofs.YtdamfbighdkcbaaGreat.V
namespace Go.Proofs.YtdamfbighdkcbaaGreat.V
open Go.RowKit Go.Proofs.YtdamfbighdkcbaaGreat.D Go.Proofs.YtdamfbighdkcbaaGreat.P
section
variable {m:Int} {W:Nat} {z b:List (List Int)} {Z Bs:Vc→Prop}
theorem RelMx (m2:2≤m) (m12:m≤12) (hz:Lead m W z Z) (hb:Lead m W b Bs) {A B:List (List Int)} (hA:All2 (RelR m W z) (nn z W) A) (hB:All2 (RelT m W z b) (nn b W) B) (c:Vc) :
  Mx m (nn z W).length ((A++B).map (pick (nn z W))) c↔Bs (cmb (gen z (nn z W)) c (nn z W).length):=by
 obtain⟨A1,A2⟩:=hA
 obtain⟨B1,B2⟩:=hB
 have xl:((A++B).map (pick (nn z W))).length=A.length+B.length:=by rw[List.length_map,List.length_append]
 have hrow:∀k,k < A.length+B.length→Mx m (nn z W).length ((A++B).map (pick (nn z W))) (V (pick (nn z W) (row (A++B) (k:Int)))):=fun k hk=>by
  have:=Zbu (m:=m) (W:=(nn z W).length) (r:=(A++B).map (pick (nn z W))) (i:=k) (by omega)
  rwa[ZbB _ _ (by rw[List.length_append];exact hk)]at this
 refine Znr m2 m12 hz.tab hb Sp.sub (R:=fun k=>V (pick (nn z W) (row A (k:Int)))) (T:=fun l=>V (pick (nn z W) (row B (l:Int)))) (fun k hk => ?_) (fun l hl => ?_) (fun c hc => ?_) c
 ·
  have h:=A2 k hk
  refine⟨by have:=hrow k (by omega);rwa[Zcf (by omega)]at this,fun i hi => ?_,?_,fun i hi => ?_⟩
  ·
   show rd (pick _ _) (i:Int)=0
   rw[ZdS (by omega)]
   exact h.low _ (nn_lt hi hk)
  ·
   refine Zaw ?_
   show rd (pick _ _) (k:Int)=_
   rw[ZdS hk,h.at_]
   rfl
  ·
   show m∣cmb (gen z (nn z W)) (V (pick (nn z W) (row A (k:Int)))) (nn z W).length i
   rw[←Zhj]
   exact h.ker i hi
 ·
  have h:=B2 l hl
  refine⟨by have:=hrow (A.length+l) (by omega);rwa[Zb6 (by omega)]at this,fun i hi => ?_⟩
  show m∣cmb (gen z (nn z W)) (V (pick (nn z W) (row B (l:Int)))) (nn z W).length i - _
  rw[←Zhj]
  exact h.eq i hi
 ·
  have hS:Sub m (nn z W).length (fun c=>Bs (cmb (gen z (nn z W)) c (nn z W).length)):=by
   refine⟨hb.sub.alike _ _ hb.sub.zero fun i _=>Zaw (by rw[Zgd _ fun k _=>rfl]),fun x y h1 h2 c=>hb.sub.alike _ _ (hb.sub.lin _ _ h1 h2 c) fun i _=>Zaw ?_,fun x y h1 h2=>hb.sub.alike _ _ h1 fun i hi => ?_⟩
   ·
    rw[ZbV]
   ·
    exact ZcJ i _ fun j hj=>h2 j hj
  refine hS.all (fun g hg => ?_) hc
  obtain⟨f,hf,rfl⟩:=hg
  obtain⟨q,q0,q1,rfl⟩:=ZcW hf
  obtain⟨n,rfl⟩:=Int.eq_ofNat_of_zero_le q0
  rw[ZbB _ _ (by rw[List.length_append];omega)]
  show Bs (cmb (gen z (nn z W)) (V (pick (nn z W) (row (A++B) (n:Int)))) (nn z W).length)
  rw[←Zhj]
  by_cases h:n < A.length
  ·
   rw[Zcf h]
   exact hb.sub.alike _ _ hb.sub.zero fun i hi=>Zbo (by rw[Int.sub_zero];exact(A2 n (by omega)).ker i hi)
  ·
   obtain⟨l,rfl⟩:∃l,n=A.length+l:=⟨n - A.length,by omega⟩
   rw[Zb6 (by omega)]
   have hl:l < (nn b W).length:=by omega
   obtain⟨a1,a2⟩:=nn_at hl
   exact hb.sub.alike _ _ (hb.own _ a1 a2) fun i hi=>Zbo ((B2 l hl).eq i hi)
theorem ZhM (m2:2≤m) (m12:m≤12) (hW:W≤1000) (hz:Lead m W z Z) (hb:Lead m W b Bs) (hBZ:∀x,Bs x→Z x) (mb:Int) :
  ∃ns,Zj.f m z mb b=(Zag.f (ns.filter fun x => !decide (x=1))).bind (fun t=>some t)∧ns.length=(nn z W).length∧(∀n∈ns,0 < n∧n∣m)∧(ns.Pairwise fun a b=>a∣b)∧Dg m (nn z W).length (fun c=>Bs (cmb (gen z (nn z W)) c (nn z W).length)) ns:=by
 have zl:=hz.tab.len
 obtain⟨A,B,k1,k2,k3⟩:=Zjt m2 m12 hW hz hb hBZ mb
 have nzW:=nn_le z W
 have nbW:=nn_le b W
 have Al:=k2.1
 have Bl:=k3.1
 obtain⟨RS,hRS⟩:∃RS,RS=A++B:=⟨_,rfl⟩
 have RSl:RS.length=A.length+B.length:=by rw[hRS,List.length_append]
 obtain⟨at_,ha⟩:∃at_:List Int,at_=(nn z W).map fun j:Nat=>(j:Int):=⟨_,rfl⟩
 have atl:at_.length=(nn z W).length:=by rw[ha,List.length_map]
 have atr:∀k,k < (nn z W).length→rd at_ (k:Int)=(((nn z W).getD k 0:Nat):Int):=fun k hk=>by
  rw[Zbi (by omega),List.getD_eq_getElem?_getD,List.getElem?_eq_getElem hk]
  simp[ha]
 have cols:∀(n j:Nat),j+n=W→Zj.l0 z (W:Int) (j:Int) m z mb b ((nn z j).map fun j:Nat=>(j:Int))=Zj.l0 z (W:Int) (W:Int) m z mb b at_:=by
  intro n
  induction n with
  | zero =>
   intro j hj
   have:j=W:=by omega
   subst this
   rw[ha]
  | succ n ih =>
   intro j hj
   have nj:=nn_le z j
   rw[←ih (j+1) (by omega),Zj.l0_eq,wn (j:=j) (by omega)]
   have ml:((nn z j).map fun j:Nat=>(j:Int)).length=(nn z j).length:=List.length_map ..
   have l1:([(j:Int)]:List Int).length=1:=rfl
   by_cases hr:row z (j:Int)=[]
   ·
    have e0:(row z (j:Int)).length=0:=by rw[hr];rfl
    rw[show nn z (j+1)=nn z j by rw[Zdn,if_neg (fun q=>q hr),List.append_nil]]
    ((with_reducible repeat (first|refine Zl (by first|assumption|omega|rfl|exact B_pos (by omega)) ?_|refine Zk (by first|assumption|omega|decide|exact B_not (by omega)) ?_|refine Ze (by first|assumption) ?_|dsimp only));first|done|(with_reducible rfl)|simp (disch:=omega) only[w64]|(show False;done))
   ·
    have pl:=(hz.tab.prow (show j < W by omega) hr).len
    rw[show nn z (j+1)=nn z j++[j]by rw[Zdn,if_pos hr],List.map_append,List.map_cons,List.map_nil]
    ((with_reducible repeat (first|refine Zl (by first|assumption|omega|rfl|exact B_pos (by omega)) ?_|refine Zk (by first|assumption|omega|decide|exact B_not (by omega)) ?_|refine Ze (by first|assumption) ?_|dsimp only));first|done|(with_reducible rfl)|simp (disch:=omega) only[w64]|(show False;done))
 have cols:=cols W 0 (by omega)
 have cols:Zj.l0 z (W:Int) 0 m z mb b []=_:=cols
 have rows:∀(n k:Nat),k+n=RS.length→Zj.l1 RS (RS.length:Int) (k:Int) m z at_ ((RS.take k).map (pick (nn z W)))=Zj.l1 RS (RS.length:Int) (RS.length:Int) m z at_ (RS.map (pick (nn z W))):=by
  intro n
  induction n with
  | zero =>
   intro k hk
   have:k=RS.length:=by omega
   subst this
   rw[List.take_length]
  | succ n ih =>
   intro k hk
   have rl:(row RS (k:Int)).length=W:=by
    by_cases h:k < A.length
    ·
     rw[hRS,Zcf h];exact(k2.2 k (by omega)).len
    ·
     obtain⟨l,rfl⟩:∃l,k=A.length+l:=⟨k - A.length,by omega⟩
     rw[hRS,Zb6 (by omega)];exact(k3.2 l (by omega)).len
   have inner:=up (nn z W).length (fun i=>Zj.l2 (row RS (k:Int)) RS (RS.length:Int) (k:Int) ((nn z W).length:Int) (i:Int) m z at_ ((RS.take k).map (pick (nn z W))) ((pick (nn z W) (row RS (k:Int))).take i)) (fun i hi=>by
    obtain⟨a1,a2⟩:=nn_at hi
    have ar:=atr i hi
    have pl:=Zec (nn z W) (row RS (k:Int))
    have pr:=ZdS (t:=row RS (k:Int)) hi
    have tl:((pick (nn z W) (row RS (k:Int))).take i).length=i:=by rw[List.length_take];omega
    have e:(pick (nn z W) (row RS (k:Int))).take (i+1)=(pick (nn z W) (row RS (k:Int))).take i++[rd (row RS (k:Int)) (((nn z W).getD i 0:Nat):Int)]:=by
     rw[List.take_add_one,List.getElem?_eq_getElem (by omega),←Zbi (by omega),pr];rfl
    have l1:([rd (row RS (k:Int)) (((nn z W).getD i 0:Nat):Int)]:List Int).length=1:=rfl
    rw[Zj.l2_eq,wn (j:=i) (by omega),ar,e]
    ((with_reducible repeat (first|refine Zl (by first|assumption|omega|rfl|exact B_pos (by omega)) ?_|refine Zk (by first|assumption|omega|decide|exact B_not (by omega)) ?_|refine Ze (by first|assumption) ?_|dsimp only));first|done|(with_reducible rfl)|simp (disch:=omega) only[w64]|(show False;done)))
   rw[List.take_zero,←Zec (nn z W) (row RS (k:Int)),List.take_length,Zec]at inner
   have inner:Zj.l2 (row RS (k:Int)) RS (RS.length:Int) (k:Int) ((nn z W).length:Int) 0 m z at_ ((RS.take k).map (pick (nn z W))) []=_:=inner
   have e:(RS.take (k+1)).map (pick (nn z W))=(RS.take k).map (pick (nn z W))++[pick (nn z W) (row RS (k:Int))]:=by
    rw[List.take_add_one,List.getElem?_eq_getElem (by omega),←Zbf (by omega),List.map_append];rfl
   have l1:([pick (nn z W) (row RS (k:Int))]:List (List Int)).length=1:=rfl
   have l2:((RS.take k).map (pick (nn z W))).length=k:=by rw[List.length_map,List.length_take];omega
   have fin:Zj.l2 (row RS (k:Int)) RS (RS.length:Int) (k:Int) ((nn z W).length:Int) ((nn z W).length:Int) m z at_ ((RS.take k).map (pick (nn z W))) (pick (nn z W) (row RS (k:Int)))=Zj.l1 RS (RS.length:Int) ((k+1:Nat):Int) m z at_ ((RS.take (k+1)).map (pick (nn z W))):=by
    rw[Zj.l2_eq,wn (j:=k) (by omega),e]
    ((with_reducible repeat (first|refine Zl (by first|assumption|omega|rfl|exact B_pos (by omega)) ?_|refine Zk (by first|assumption|omega|decide|exact B_not (by omega)) ?_|refine Ze (by first|assumption) ?_|dsimp only));first|done|(with_reducible rfl)|simp (disch:=omega) only[w64]|(show False;done))
   rw[←ih (k+1) (by omega),←fin,←inner,Zj.l1_eq,atl]
   ((with_reducible repeat (first|refine Zl (by first|assumption|omega|rfl|exact B_pos (by omega)) ?_|refine Zk (by first|assumption|omega|decide|exact B_not (by omega)) ?_|refine Ze (by first|assumption) ?_|dsimp only));first|done|(with_reducible rfl)|simp (disch:=omega) only[w64]|(show False;done))
 have rows:=rows RS.length 0 (by omega)
 have rows:Zj.l1 RS (RS.length:Int) 0 m z at_ []=_:=rows
 obtain⟨ns,r', d1,d2,d3,d4,d5⟩:=Zj6 m2 m12 (W:=(nn z W).length) (R:=RS.length) (by omega) (X:=RS.map (pick (nn z W))) (List.length_map ..) (by omega) (fun k hk=>by
  rw[ZbB _ _ hk]
  refine⟨Zec ..,fun c hc => ?_⟩
  rw[ZdS hc]
  obtain⟨a1,a2⟩:=nn_at hc
  by_cases h:k < A.length
  ·
   rw[hRS,Zcf h]
   have:=(k2.2 k (by omega)).bd _ a1
   omega
  ·
   obtain⟨l,rfl⟩:∃l,k=A.length+l:=⟨k - A.length,by omega⟩
   rw[hRS,Zb6 (by omega)]
   have:=(k3.2 l (by omega)).bd _ a1
   omega)
 refine⟨ns,?_,d2,d3,d4,d5.eqd (.of fun c=>by rw[hRS];exact(RelMx m2 m12 hz hb k2 k3 c).symm)⟩
 have dl:=ZjC (F:=fun z0=>(ZO.f z0).map fun z=>z) (p:=fun x=>decide (x=1)) ns (by omega) fun x _=>by
  show(ZO.f x).map _=_
  rw[ZO.f_eq]
  rfl
 rw[Zj.f_eq,zl,cols,Zj.l0_eq,zl,k1,←hRS]
 have ne:¬ (W:Int) < (W:Int):=by omega
 rw[if_neg ne,Option.bind_some,rows,Zj.l1_eq,atl]
 have ne2:¬ (RS.length:Int) < (RS.length:Int):=by omega
 rw[if_neg ne2,d1,Option.bind_some]
 show(Zt.f ns _).bind _=_
 rw[dl,Option.bind_some]
end
theorem Zl3 {m:Int} {ns:List Int} (h1:∀n∈ns,0 < n∧n∣m) (h2:ns.Pairwise fun a b=>a∣b):Chn m (ns.filter fun x => !decide (x=1))∧(∀t∈qs,cq t.1 (ns.filter fun x => !decide (x=1))=cq t.1 ns):=by
 refine⟨⟨fun x hx => ?_,h2.filter _⟩,fun t ht => ?_⟩
 ·
  rw[List.mem_filter,Bool.not_eq_true', decide_eq_false_iff_not]at hx
  have:=h1 x hx.1
  exact⟨by omega,this.2⟩
 ·
  have t2:2≤t.1:=by
   have:qs.all (fun t=>decide (2≤t.1))=true:=by decide
   simpa using List.all_eq_true.1 this t ht
  rw[cq,cq,List.countP_filter]
  refine List.countP_congr fun x hx => ?_
  rw[Bool.and_eq_true,decide_eq_true_iff,Bool.not_eq_true', decide_eq_false_iff_not]
  refine⟨fun h=>h.1,fun h=>⟨h,fun e => ?_⟩⟩
  rw[e,Int.emod_eq_of_lt (by omega) (by omega)]at h
  omega
end Go.Proofs.YtdamfbighdkcbaaGreat.V
set_option maxHeartbeats 2000000
namespace Go.Proofs.YtdamfbighdkcbaaGreat.V
open Go.RowKit Go.Proofs.YtdamfbighdkcbaaGreat.D Go.Proofs.YtdamfbighdkcbaaGreat.P
theorem less_ (a b:Int):Z7.f a b=some (decide (a < b)):=by
 rw[Z7.f_eq,Zax.f_eq,Zax.f_eq]
 simp
end Go.Proofs.YtdamfbighdkcbaaGreat.V
namespace Go.Proofs.YtdamfbighdkcbaaGreat.V
open Go.RowKit Go.Proofs.YtdamfbighdkcbaaGreat.D Go.Proofs.YtdamfbighdkcbaaGreat.P
theorem le_at {xs:List Int} (hs:xs.Pairwise (· ≤ ·)) {i j:Nat} (hij:i≤j) (hj:j < xs.length):rd xs (i:Int)≤rd xs (j:Int):=by
 rw[Zbi (by omega),Zbi hj]
 by_cases e:i=j
 ·
  subst e;exact Int.le_refl _
 ·
  exact(List.pairwise_iff_getElem.1 hs) i j (by omega) hj (by omega)
theorem Zl7 {xs:List Int} (hl:xs.length≤1000) (hs:xs.Pairwise (· ≤ ·)):Zf.f xs 0 (xs.length:Int)=some xs:=by
 have loop:∀(d i:Nat),1≤i→i+d=max 1 xs.length→Zf.l0 0 (xs.length:Int) (i:Int) xs=some xs:=by
  intro d
  induction d with
  | zero =>
   intro i _ hi
   rw[Zf.l0_eq]
   ((with_reducible repeat (first|refine Zl (by first|assumption|omega|rfl|exact B_pos (by omega)) ?_|refine Zk (by first|assumption|omega|decide|exact B_not (by omega)) ?_|refine Ze (by first|assumption) ?_|dsimp only));first|done|(with_reducible rfl)|simp (disch:=omega) only[w64]|(show False;done))
  | succ d ih =>
   intro i i1 hi
   have h:=le_at hs (i:=i - 1) (j:=i) (by omega) (by omega)
   have w:wrapI ((i:Int) - 1)=((i - 1:Nat):Int):=by rw[w64 (by omega) (by omega)];omega
   have hd:decide (rd xs (i:Int) < rd xs ((i - 1:Nat):Int))=false:=decide_eq_false (by omega)
   have step:Zf.l1 0 (xs.length:Int) (i:Int) (i:Int) xs=Zf.l0 0 (xs.length:Int) ((i+1:Nat):Int) xs:=by
    rw[Zf.l1_eq,w,less_,hd,Option.bind_some,wn (j:=i) (by omega)]
    simp only[Bool.false_eq_true,if_false]
    ((with_reducible repeat (first|refine Zl (by first|assumption|omega|rfl|exact B_pos (by omega)) ?_|refine Zk (by first|assumption|omega|decide|exact B_not (by omega)) ?_|refine Ze (by first|assumption) ?_|dsimp only));first|done|(with_reducible rfl)|simp (disch:=omega) only[w64]|(show False;done))
   rw[Zf.l0_eq,step,ih (i+1) (by omega) (by omega)]
   ((with_reducible repeat (first|refine Zl (by first|assumption|omega|rfl|exact B_pos (by omega)) ?_|refine Zk (by first|assumption|omega|decide|exact B_not (by omega)) ?_|refine Ze (by first|assumption) ?_|dsimp only));first|done|(with_reducible rfl)|simp (disch:=omega) only[w64]|(show False;done))
 have w1:wrapI (0+1)=((1:Nat):Int):=by rw[w64 (by omega) (by omega)];rfl
 rw[Zf.f_eq,w1]
 exact loop (max 1 xs.length - 1) 1 (by omega) (by omega)
theorem Zle {xs:List Int} (hl:xs.length≤1000) (h2:2≤xs.length) (hs:xs.Pairwise (· ≤ ·)):Zd.f xs 0 (xs.length:Int)=some (true,xs):=by
 have loop:∀(d i:Nat),1≤i→i+d=xs.length→Zd.l1 0 (xs.length:Int) (i:Int) 0 xs=some (true,xs):=by
  intro d
  induction d with
  | zero =>
   intro i _ hi
   have:i=xs.length:=by omega
   subst this
   rw[Zd.l1_eq]
   ((with_reducible repeat (first|refine Zl (by first|assumption|omega|rfl|exact B_pos (by omega)) ?_|refine Zk (by first|assumption|omega|decide|exact B_not (by omega)) ?_|refine Ze (by first|assumption) ?_|dsimp only));first|done|(with_reducible rfl)|simp (disch:=omega) only[w64]|(show False;done))
  | succ d ih =>
   intro i i1 hi
   have h:=le_at hs (i:=i - 1) (j:=i) (by omega) (by omega)
   have w:wrapI ((i:Int) - 1)=((i - 1:Nat):Int):=by rw[w64 (by omega) (by omega)];omega
   have hd:decide (rd xs (i:Int) < rd xs ((i - 1:Nat):Int))=false:=decide_eq_false (by omega)
   rw[Zd.l1_eq,w,less_,hd,Option.bind_some,wn (j:=i) (by omega),ih (i+1) (by omega) (by omega)]
   simp only[Bool.false_eq_true,if_false]
   ((with_reducible repeat (first|refine Zl (by first|assumption|omega|rfl|exact B_pos (by omega)) ?_|refine Zk (by first|assumption|omega|decide|exact B_not (by omega)) ?_|refine Ze (by first|assumption) ?_|dsimp only));first|done|(with_reducible rfl)|simp (disch:=omega) only[w64]|(show False;done))
 have w1:wrapI (0+1)=((1:Nat):Int):=by rw[w64 (by omega) (by omega)];rfl
 rw[Zd.f_eq,w1,Zd.l0_eq,loop (xs.length - 1) 1 (by omega) (by omega)]
 ((with_reducible repeat (first|refine Zl (by first|assumption|omega|rfl|exact B_pos (by omega)) ?_|refine Zk (by first|assumption|omega|decide|exact B_not (by omega)) ?_|refine Ze (by first|assumption) ?_|dsimp only));first|done|(with_reducible rfl)|simp (disch:=omega) only[w64]|(show False;done))
theorem ZdQ {xs:List Int} (hs:xs.Pairwise (· ≤ ·)) {i j:Nat} (hij:i≤j) (hj:j < xs.length) (s:Int):ZB.f xs (i:Int) (j:Int) s=some ((i:Int),(j:Int),s):=by
 have h:=le_at hs hij hj
 have hd:decide (rd xs (j:Int) < rd xs (i:Int))=false:=decide_eq_false (by omega)
 rw[ZB.f_eq,less_,hd,Option.bind_some]
 simp only[Bool.false_eq_true,if_false]
 ((with_reducible repeat (first|refine Zl (by first|assumption|omega|rfl|exact B_pos (by omega)) ?_|refine Zk (by first|assumption|omega|decide|exact B_not (by omega)) ?_|refine Ze (by first|assumption) ?_|dsimp only));first|done|(with_reducible rfl)|simp (disch:=omega) only[w64]|(show False;done))
theorem Zh7 {xs:List Int} (hs:xs.Pairwise (· ≤ ·)) {i j k:Nat} (hij:i≤j) (hjk:j≤k) (hk:k < xs.length) (s:Int):ZI.f xs (i:Int) (j:Int) (k:Int) s=some ((j:Int),s):=by
 rw[ZI.f_eq,ZdQ hs hij (by omega)]
 simp only[Option.bind_some]
 rw[ZdQ hs hjk hk]
 simp only[Option.bind_some]
 rw[ZdQ hs hij (by omega)]
 rfl
theorem ZjY {xs:List Int} (hs:xs.Pairwise (· ≤ ·)) (h1:8≤xs.length) (h2:xs.length < 50):Zx.f xs 0 (xs.length:Int)=some (((xs.length / 4*2:Nat):Int),1):=by
 have w:wrapI ((xs.length:Int) - 0)=(xs.length:Int):=by rw[w64 (by omega) (by omega)];omega
 have q:wrapI (Int.tdiv (xs.length:Int) 4)=((xs.length / 4:Nat):Int):=by
  rw[ZgP (by omega),w64 (by omega) (by omega)];omega
 have m1:wrapI (0+wrapI (((xs.length / 4:Nat):Int)*1))=((xs.length / 4:Nat):Int):=by rw[w64 (x:=((xs.length / 4:Nat):Int)*1) (by omega) (by omega),w64 (by omega) (by omega)];omega
 have m2:wrapI (0+wrapI (((xs.length / 4:Nat):Int)*2))=((xs.length / 4*2:Nat):Int):=by rw[w64 (x:=((xs.length / 4:Nat):Int)*2) (by omega) (by omega),w64 (by omega) (by omega)];omega
 have m3:wrapI (0+wrapI (((xs.length / 4:Nat):Int)*3))=((xs.length / 4*3:Nat):Int):=by rw[w64 (x:=((xs.length / 4:Nat):Int)*3) (by omega) (by omega),w64 (by omega) (by omega)];omega
 rw[Zx.f_eq,w,q,m1,m2,m3,Zh7 hs (by omega) (by omega) (by omega)]
 simp only[Option.bind_some,if_true]
 ((with_reducible repeat (first|refine Zl (by first|assumption|omega|rfl|exact B_pos (by omega)) ?_|refine Zk (by first|assumption|omega|decide|exact B_not (by omega)) ?_|refine Ze (by first|assumption) ?_|dsimp only));first|done|(with_reducible rfl)|simp (disch:=omega) only[w64]|(show False;done))
theorem Zlu {xs:List Int} (hl:xs.length < 50) (hs:xs.Pairwise (· ≤ ·)):Zag.f xs=some xs:=by
 have hw:wr .u64 (xs.length:Int)=(xs.length:Int):=by
  show hid (IntKind.wrap .u64 _)=_
  rw[Zdg]
  obtain⟨n,hn⟩:∃n,n=xs.length:=⟨_,rfl⟩
  rw[←hn]at hl ⊢
  have:∀n:Fin 50,IntKind.wrap .u64 ((n:Nat):Int)=((n:Nat):Int):=by decide
  exact this ⟨n,by omega⟩
 have hb:∃y,bits_Len.f (xs.length:Int)=some y∧(13≤xs.length→¬ y=0):=by
  refine⟨_,if_pos ⟨by omega,by omega⟩,fun h e => ?_⟩
  obtain⟨n,hn⟩:∃n,n=xs.length:=⟨_,rfl⟩
  rw[←hn]at hl h e
  have:∀n:Fin 50,13≤(n:Nat)→¬ Lib.bitLen (n:Nat)=0:=by decide +kernel
  have e:((Lib.bitLen ((n:Int)).toNat:Nat):Int)=0:=e
  rw[Int.toNat_natCast]at e
  exact this ⟨n,by omega⟩ h (by exact_mod_cast e)
 obtain⟨y,hb,hy⟩:=hb
 have w:wrapI ((xs.length:Int) - 0)=(xs.length:Int):=by rw[w64 (by omega) (by omega)];omega
 have key:Zq.f xs 0 (xs.length:Int) y=some xs:=by
  rw[Zq.f_eq,Zq.l0_eq,w]
  by_cases h:xs.length≤12
  ·
   rw[if_pos (by omega),Zl7 (by omega) hs]
   rfl
  ·
   rw[if_neg (by omega),if_neg (hy (by omega)),ZjY hs (by omega) hl,Zle (by omega) (by omega) hs]
   rfl
 rw[Zag.f_eq,hw,hb,Option.bind_some,key]
 rfl
end Go.Proofs.YtdamfbighdkcbaaGreat.V
set_option maxHeartbeats 4000000
namespace Go.Proofs.YtdamfbighdkcbaaGreat.V
open Go.RowKit Go.Proofs.YtdamfbighdkcbaaGreat.D Go.Proofs.YtdamfbighdkcbaaGreat.P
theorem ZnL {m:Int} (m2:2≤m) (m12:m≤12) {W:Nat} {p:List (List Int)} {M:Vc→Prop} (h:Lead m W p M):0 < ct m W M:=by
 have e:=Zm3 m2 m12 h
 have:0 < m.toNat ^ W:=Nat.pow_pos (by omega)
 rcases Nat.eq_zero_or_pos (ct m W M)with z|z
 ·
  rw[z,Nat.zero_mul]at e;omega
 ·
  exact z
theorem InvOf.same {m:Int} (m2:2≤m) (m12:m≤12) {W:Nat} {Z Bs:Vc→Prop} (hB:Sub m W Bs) (hBZ:∀x,Bs x→Z x) {L L' : List Int} (h:InvOf m W Z Bs L) (h' : InvOf m W Z Bs L'):L=L' := by
 obtain⟨p,ns,a1,a2,a3,a4,_,a6⟩:=h.dia
 obtain⟨p', ns', b1,b2,b3,b4,_,b6⟩:=h'.dia
 refine ZlO m2 m12 h.chn h'.chn fun t ht => ?_
 rw[a4 t ht,b4 t ht]
 refine Zm2 m2 m12 a2 b2 (fun d d0 hd => ?_) ht
 have e:=Znj (by omega) a1 b1
 have k1:=ZmJ (m:=m) (by omega) (G:=gen p (nn p W)) a1.sub hB (Zd4 m2 m12 a1) hBZ (L:=fun c=>Bs (cmb (gen p (nn p W)) c (nn p W).length)) (fun c=>Iff.rfl) d
 have k2:=ZmJ (m:=m) (by omega) (G:=gen p' (nn p' W)) b1.sub hB (Zd4 m2 m12 b1) hBZ (L:=fun c=>Bs (cmb (gen p' (nn p' W)) c (nn p' W).length)) (fun c=>Iff.rfl) d
 rw[a6 d d0 hd]at k1
 rw[b6 d d0 hd,←e,←k1]at k2
 exact(Nat.eq_of_mul_eq_mul_right (ZnL m2 m12 a1) k2).symm
theorem Zgl {g:List (List Int)} (hg:Grp g) {m:Int} {u:List Int} (hm:Mdl g m u) {n:Nat} (hn:n≤3) (hr:nB g n≤49):∃L,Zai.f g m u (n:Int)=some L∧Zg.f g m u (n:Int)=some L∧InvOf m (nB g n) (coM g m u n) (Sp m (nB g n) (bdG g m u n)) L∧L.length≤49:=by
 have m2:=hm.m2;have m12:=hm.m12
 obtain⟨z,z1,z2⟩:=Zg6 hg hm hn
 obtain⟨b,b1,b2⟩:=Zjv hg hm hn
 have b2:=b2.lead (by omega)
 have hBZ:∀x,Sp m (nB g n) (bdG g m u n) x→coM g m u n x:=fun x hx=>bd_co hg hm hn hx
 obtain⟨ns,k1,k2,k3,k4,k5⟩:=ZhM m2 m12 (by omega) z2 b2 hBZ m
 obtain⟨c1,c2⟩:=Zl3 k3 k4
 obtain⟨L', l1,l2⟩:=ZhN hg hm hn hr
 have fl:(ns.filter fun x => !decide (x=1)).length≤ns.length:=List.length_filter_le ..
 have nz:=nn_le z (nB g n)
 have hI:InvOf m (nB g n) (coM g m u n) (Sp m (nB g n) (bdG g m u n)) (ns.filter fun x => !decide (x=1)):=⟨c1,z,ns,z2,k3,k2,c2,fl,k5⟩
 have e:=hI.same m2 m12 b2.sub hBZ l2
 refine⟨ns.filter fun x => !decide (x=1),?_,by rw[e];exact l1,hI,by omega⟩
 have srt:(ns.filter fun x => !decide (x=1)).Pairwise (· ≤ ·):=c1.dvd.imp_of_mem fun {a b} ha hb h=>Int.le_of_dvd (by have:=(c1.ent b hb).1;omega) h
 rw[Zlu (by omega) srt]at k1
 rw[Zai.f_eq,z1,Option.bind_some,b1,Option.bind_some]
 show(Zj.f m z m b).bind _=_
 rw[k1]
 rfl
end Go.Proofs.YtdamfbighdkcbaaGreat.V
set_option maxHeartbeats 2000000
namespace Go.Proofs.YtdamfbighdkcbaaGreat.V
open Go.RowKit Go.Proofs.YtdamfbighdkcbaaGreat.D Go.Proofs.YtdamfbighdkcbaaGreat.P
theorem Zez (g:List (List Int)) (m:Int) (u:List Int) (n:Int) (hl:g.length≤maxLen) (hr:∀r∈g,r.length≤maxLen) (hu:u.length≤maxLen) :
  ∃(R:List Int) (c:Int),Zak.f g m u n=some (R,c)∧Zaf.f g m u n=some (R,c)∧R.length≤1048576:=by
 rw[Zak.f_eq,Zaf.f_eq]
 rcases rank hl hr m u hu n with ⟨k,rfl,k3,hg,hm,hb,cI,cS⟩|⟨c,c0,cI,cS⟩
 rotate_left
 ·
  exact⟨[],c,by((with_reducible repeat (first|refine Zl (by first|assumption|omega|rfl|exact B_pos (by omega)) ?_|refine Zk (by first|assumption|omega|decide|exact B_not (by omega)) ?_|refine Ze (by first|assumption) ?_|dsimp only));first|done|(with_reducible rfl)|simp (disch:=omega) only[w64]|(show False;done)),by((with_reducible repeat (first|refine Zl (by first|assumption|omega|rfl|exact B_pos (by omega)) ?_|refine Zk (by first|assumption|omega|decide|exact B_not (by omega)) ?_|refine Ze (by first|assumption) ?_|dsimp only));first|done|(with_reducible rfl)|simp (disch:=omega) only[w64]|(show False;done)),by simp⟩
 obtain⟨L,h1,h2,_,h4⟩:=Zgl hg hm k3 hb
 exact⟨L,0,by((with_reducible repeat (first|refine Zl (by first|assumption|omega|rfl|exact B_pos (by omega)) ?_|refine Zk (by first|assumption|omega|decide|exact B_not (by omega)) ?_|refine Ze (by first|assumption) ?_|dsimp only));first|done|(with_reducible rfl)|simp (disch:=omega) only[w64]|(show False;done)),by((with_reducible repeat (first|refine Zl (by first|assumption|omega|rfl|exact B_pos (by omega)) ?_|refine Zk (by first|assumption|omega|decide|exact B_not (by omega)) ?_|refine Ze (by first|assumption) ?_|dsimp only));first|done|(with_reducible rfl)|simp (disch:=omega) only[w64]|(show False;done)),by omega⟩
end Go.Proofs.YtdamfbighdkcbaaGreat.V
set_option maxHeartbeats 4000000
namespace Go.Proofs.YtdamfbighdkcbaaGreat.Pure
open Go.RowKit Go.Proofs.YtdamfbighdkcbaaGreat.D Go.Proofs.YtdamfbighdkcbaaGreat.P Go.Proofs.YtdamfbighdkcbaaGreat.V
theorem FnExactInvariantsOf_pure:∀(g0:List (List Int)) (m1:Int) (u1:List Int) (a2:Int),g0.length≤maxLen→(∀r∈g0,r.length≤maxLen∧∀x∈r,(Lit.int .i64 x).wf=true)→(Lit.int .i64 m1).wf=true→u1.length≤maxLen→(∀x∈u1,(Lit.int .i64 x).wf=true)→(Lit.int .i64 a2).wf=true→ZE.f g0 m1 u1 a2=some true:=by
 intro g0 m1 u1 a2 hl0 hq0 hw1 hu1 hx1 hw2
 have hr0:∀r∈g0,r.length≤maxLen:=fun r h=>(hq0 r h).1
 rw[ZE.f_eq]
 obtain⟨t0,e0,z0⟩:=ZnB g0 1048576 hl0 hr0 (by omega) (by omega)
 rcases z0 with z0|⟨ta0,tb0,kl0,kr0⟩
 ·
  ((with_reducible repeat (first|refine Zl (by first|assumption|omega|rfl|exact B_pos (by omega)) ?_|refine Zk (by first|assumption|omega|decide|exact B_not (by omega)) ?_|refine Ze (by first|assumption) ?_|dsimp only));first|done|(with_reducible rfl)|simp (disch:=omega) only[w64]|(show False;done))
 obtain⟨t1,e1,z1⟩:=Zmr m1 u1 t0 hu1 (by omega) (by omega)
 rcases z1 with z1|⟨ta1,tb1,ku1⟩
 ·
  ((with_reducible repeat (first|refine Zl (by first|assumption|omega|rfl|exact B_pos (by omega)) ?_|refine Zk (by first|assumption|omega|decide|exact B_not (by omega)) ?_|refine Ze (by first|assumption) ?_|dsimp only));first|done|(with_reducible rfl)|simp (disch:=omega) only[w64]|(show False;done))
 obtain⟨R0,c1,hS,hI,rb0⟩:=Zez g0 m1 u1 a2 hl0 hr0 hu1
 have eT0:=ZnC g0 kl0 kr0
 have eS0:=Zj2 g0 hl0 hr0
 have eN0:=ZlB kl0 kr0
 have eK0:=ZkX g0 (1) (by omega) (by omega) (by omega)
 have eT1:=Zmt m1 u1 ku1
 have eS1:=Zit m1 u1 hu1
 have eK1:=ZjM m1 u1 (1+tot g0) (by omega) (by omega)
 have rS0:=Zlp R0 (ZkV (by omega))
 have rK0:=markS R0 (1) (by omega) (by omega)
 have rH0:=heldS (1) R0.length (by omega) (by omega)
 ((with_reducible repeat (first|refine Zl (by first|assumption|omega|rfl|exact B_pos (by omega)) ?_|refine Zk (by first|assumption|omega|decide|exact B_not (by omega)) ?_|refine Ze (by first|assumption) ?_|dsimp only));first|done|(with_reducible rfl)|simp (disch:=omega) only[w64]|(show False;done))
end Go.Proofs.YtdamfbighdkcbaaGreat.Pure
namespace Go.Proofs.YtdamfbighdkcbaaGreat.shut
theorem mayEnter:Tryz.pinned.checked.prog.mayEnter=true:=by kernel_rfl
theorem lifted:(Rows.fnExactInvariantsOfRow.lifted == Tryz.pinned.checked.prog.liftsFinal)=true:=by kernel_rfl
theorem make:(Tryz.pinned.checked.prog.make == some Rows.fnExactInvariantsOfRow.make)=true:=by kernel_rfl
end Go.Proofs.YtdamfbighdkcbaaGreat.shut
