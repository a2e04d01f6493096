/- What the proof of the law Fixed stands on, part 3: words, each Go function's Lean function, and that the Go code comes to its answers; no condition. (Packed by wip/myprint/pack.py out of what the kit's printer wrote, its words among it, partly by our patches of it, and out of texts of this session.) -/
import Derived.Eval
import Derived.Test.YthmcpmnhdbeahaaGreatProg
import Derived.Test.YthmcpmnhdbeahaaGreatChecked
import Derived.KernelRfl
import Derived.ChangeSlices
import Derived.ChangeSame
import Derived.Deep.Matrix
import Derived.Lib.SmallJoins
import Derived.Test.YthmcpmnhdbeahaaGreatKFixed2
set_option linter.unusedVariables false
set_option linter.unusedSimpArgs false
namespace Go.Proofs.YthmcpmnhdbeahaaGreat.D
open Go Go.RowKit
abbrev msk (listed:Array Bool):Nat→Bool:=fun j=>listed.getD j false
theorem ZkO {listed:Array Bool} {i:Nat} (hi:i < listed.size):msk (listed.setIfInBounds i true)=Chg.also (msk listed) i:=by
 funext j
 unfold msk Chg.also
 by_cases h:j=i
 ·
  subst h;simp[Array.getD_eq_getD_getElem?,hi]
 ·
  rw[if_neg h];simp[Array.getD_eq_getD_getElem?,Array.getElem?_setIfInBounds_ne (Ne.symm h)]
theorem ZeT {ops:Array Oper} {listed:Array Bool} {i:Nat}:i∈Region.ready .any ops listed↔∃o,ops[i]? = some o∧listed.getD i true=false∧∀e∈o.after,Region.binds .any e=true→listed.getD e.on false=true:=by
 unfold Region.ready
 rw[List.mem_filter,List.mem_range]
 constructor
 ·
  rintro⟨h1,h2⟩
  rw[Bool.and_eq_true]at h2
  obtain⟨h2,h3⟩:=h2
  have ho:ops[i]? = some ops[i]:=Array.getElem?_eq_getElem h1
  refine⟨_,ho,by simpa using h2,fun e he hb => ?_⟩
  rw[ho]at h3
  simp only[Option.map_some,Option.getD_some,Array.all_eq_true_iff_forall_mem]at h3
  have:=h3 e he
  rw[hb]at this
  simpa using this
 ·
  rintro⟨o,ho,h2,h3⟩
  refine⟨(Array.getElem?_eq_some_iff.1 ho).1,?_⟩
  rw[Bool.and_eq_true,ho]
  refine⟨by simp[h2],?_⟩
  simp only[Option.map_some,Option.getD_some,Array.all_eq_true_iff_forall_mem]
  intro e he
  cases hb:Region.binds .any e with
  | false=>rfl
  | true=>simpa using h3 e he hb
section
variable {P:Program} {B:Nat→Prop} {n:Nat} {J:Rel} {a:Act} {w:World}
def Shut (ops:Array Oper) (m:Nat→Bool):Prop:=∀j o,ops[j]? = some o→m j=true→∀e∈o.after,Region.binds .any e=true→m e.on=true
theorem ZgI {ops:Array Oper} {m:Nat→Bool} (hs:Shut ops m):∀(k:Nat) (o:Oper) (b i:Nat),ops[k]? = some o→(befs ops.toList [])[k]? = some b→(∀e∈o.after,Region.binds .any e=true→m e.on=true)→b.testBit i=true→m i=true:=by
 intro k
 induction k using Nat.strongRecOn with
 | _ k ih =>
  intro o b i ho hb he hi
  obtain⟨e,h1,h2,h3⟩:=Zil (l:=ops.toList) (by simpa using ho) hb hi
  have hme:=he e (by simpa using h1) h2
  rcases h3 with rfl|⟨m', h4,h5,h6⟩
  ·
   exact hme
  ·
   cases hoe:ops[e.on]? with
   | none =>
    have:e.on < ops.size:=Nat.lt_trans h4 (Array.getElem?_eq_some_iff.1 ho).1
    rw[Array.getElem?_eq_getElem this]at hoe;cases hoe
   | some o' => exact ih e.on h4 o' m' i hoe h5 (hs e.on o' hoe hme) h6
theorem Zgm {ops:Array Oper} {ss:List Stp} {m i j:Nat} {b:Oper} {t:Stp} (hb:ops[j]? = some b) (ht:ss[j]? = some t) (h:∀a ta,ops.toList[i]? = some a→(ss.map fun s=>(s.need,s.tch))[i]? = some ta→ZgD ops m a ta i b (t.need,t.tch)=true) (hm:m.testBit i=false):Frees ops ss i j:=by
 intro a b' s t' h1 h2 h3 h4
 rw[hb]at h2
 cases h2
 rw[ht]at h4
 cases h4
 have:=h a (s.need,s.tch) (by simpa using h1) (by simp[h3])
 unfold ZgD at this
 rw[hm,Bool.false_or,Bool.and_eq_true]at this
 exact this
theorem Zd0 {a b:Trc} (h:free2 a b=true):(∀T∈a.2,T ∉ b.1∧T ∉ b.2)∧∀T∈a.1,T ∉ b.2:=by
 unfold free2 at h
 rw[Bool.and_eq_true,List.all_eq_true,List.all_eq_true]at h
 refine⟨fun T hT => ?_,fun T hT => ?_⟩
 ·
  simpa using h.1 T hT
 ·
  simpa using h.2 T hT
theorem Zh6 (hm:P.follows .mixedOrders=true) (hJ:Stays J) (hJd:∀{ρ Z ob w},J ρ Z ob w→J ρ Z ob { w with drawn:=w.drawn+1 }) {id:Nat} {ops:Array Oper} {Q:Exit→Act→World→Prop} {σ σ' : St} {ss:List Stp} (hc:Chain P B n ops ops.toList σ ss σ')
  (hb:bern ops (ss.map fun s=>(s.need,s.tch))=true) (h:HldS P B n J σ a w) (hQ:∀a w,HldS P B n J σ' a w→Q .normal a w):(Code.region id ops true).wp P Q a w:=by
 obtain⟨c1,c2,c3,c4,c5,c6⟩:=Zhn _ _ _ _ hc
 have c1:ss.length=ops.size:=by simpa using c1
 have hsome:∀k,k < ops.size→∃o s,ops[k]? = some o∧ss[k]? = some s:=fun k hk=>⟨_,_,Array.getElem?_eq_getElem hk,List.getElem?_eq_getElem (by omega)⟩
 have hbern:∀k o s,ops[k]? = some o→ss[k]? = some s→(∀e∈o.after,Region.binds .any e=true→e.on < k)∧∃m,(befs ops.toList [])[k]? = some m∧∀i,i < k→m.testBit i=false→Frees ops ss i k:=fun k o s ho hs=>by
  obtain⟨g1,m,g2,g3⟩:=Zgc _ _ _ 0 hb k o (s.need,s.tch) (by simpa using ho) (by simp[hs])
  rw[Nat.zero_add]at g1 g3
  refine⟨fun e he hbd => ?_,m,g2,fun i hi=>Zgm ho hs fun a ta h1 h2=>g3 i a ta hi h1 h2⟩
  rw[Array.all_eq_true_iff_forall_mem]at g1
  have:=g1 e he
  rw[hbd]at this
  simpa using this
 let I:(Nat→Bool)→Act→World→Prop:=fun m a w=>Hld P B n J (Chg.fold m 0 (ss.map Stp.fchg) (lookF σ.fr)) (Chg.fold m 0 (ss.map Stp.ochg) (look σ.ob)) (fun T => σ.nx≤T∧∀(j:Nat) s,ss[j]? = some s→m j=true→¬ (s.lo≤T∧T < s.hi)) a w
 have hend:∀m a w,(∀j,j < ops.size→m j=true)→I m a w→Q .normal a w:=fun m a w hall hI=>by
  refine hQ a w ?_
  show Hld P B n J (lookF σ'.fr) (look σ'.ob) _ a w
  rw[c3,c4,←Chg.fold_all (m:=m) (ss.map Stp.ochg) 0 _ (fun j hj=>by rw[Nat.zero_add];exact hall j (by simpa [c1] using hj)),←Chg.fold_all (m:=m) (ss.map Stp.fchg) 0 _ (fun j hj=>by rw[Nat.zero_add];exact hall j (by simpa [c1] using hj))]
  refine Hld.less hI fun T (hT : σ'.nx≤T)=>⟨Nat.le_trans c2 hT,fun j s hs _ hr => ?_⟩
  have:=(c5 j s hs).2
  omega
 have hstep:∀(m:Nat→Bool) (k:Nat) (o:Oper) (a:Act) (w:World),Shut ops m→ops[k]? = some o→m k=false→(∀e∈o.after,Region.binds .any e=true→m e.on=true)→I m a w→∀(K:Act→World→Prop),(∀a w,I (Chg.also m k) a w→K a w)→wpOp P ops Q k K a w:=by
  intro m k o a w hsh ho hmk hed hI K hK
  have hk:=(Array.getElem?_eq_some_iff.1 ho).1
  obtain⟨_,s,_,hs⟩:=hsome k hk
  obtain⟨b1,mk,b2,b3⟩:=hbern k o s ho hs
  obtain⟨σk,d1,d2,d3,d4⟩:=c6 k o s (by simpa using ho) hs
  have before:∀j,j < k→m j=false→Frees ops ss j k:=fun j hj hmj=>b3 j hj (by
   cases ht:mk.testBit j with
   | false=>rfl
   | true=>rw[ZgI hsh k o mk j ho b2 hed ht]at hmj;cases hmj)
  have behind:∀j,k < j→m j=true→j < ops.size→Frees ops ss k j:=fun j hj hmj hjs=>by
   obtain⟨o', s', ho', hs'⟩:=hsome j hjs
   obtain⟨_,mj,e2,e3⟩:=hbern j o' s' ho' hs'
   refine e3 k hj ?_
   cases ht:mj.testBit k with
   | false=>rfl
   | true=>rw[ZgI hsh j o' mj k ho' e2 (hsh j o' ho' hmj) ht]at hmk;cases hmk
  have get:∀{β : Type} (f:Stp→Chg β) {j:Nat} {c:Chg β},(ss.map f)[j]? = some c→∃o' s', ops[j]? = some o' ∧ ss[j]? = some s' ∧ c=f s' := fun {β} f {j c} hc=>by
   rw[List.getElem?_map]at hc
   cases hj:ss[j]? with
   | none=>rw[hj]at hc;cases hc
   | some s' =>
    rw[hj]at hc
    cases hc
    have:j < ops.size:=c1 ▸ (List.getElem?_eq_some_iff.1 hj).1
    exact⟨_,s', Array.getElem?_eq_getElem this,rfl,rfl⟩
  refine Zjs ho (ZhI hJ d1 hI (fun T hT => ?_) (fun t ht => ?_) (fun T h1 h2=>⟨Nat.le_trans (c5 k s hs).1 h1,fun j s' hs' hmj hr => ?_⟩) fun a' w' h' => hK a' w' ?_)
  ·
   show Chg.fold m 0 (ss.map Stp.ochg) (look σ.ob) T=look σk.ob T
   rw[d2]
   refine Chg.fold_look (fun j c hj hc hmj ht => ?_) fun j c hj hc hmj ht => ?_
   ·
    obtain⟨o', s', ho', hs', rfl⟩:=get _ hc
    have hf:=Zd0 (before j hj hmj o' o s' s ho' ho hs' hs).2
    have ht:T∈s'.tch:=ht
    exact(List.mem_append.1 hT).elim (hf.1 T ht).1 (hf.1 T ht).2
   ·
    obtain⟨o', s', ho', hs', rfl⟩:=get _ hc
    have hne:k≠j:=fun e=>by rw[e,hmj]at hmk;cases hmk
    have hf:=Zd0 (behind j (by omega) hmj (Array.getElem?_eq_some_iff.1 ho').1 o o' s s' ho ho' hs hs').2
    have ht:T∈s'.tch:=ht
    exact(List.mem_append.1 hT).elim (fun h=>hf.2 T h ht) fun h=>(hf.1 T h).2 ht
  ·
   show Chg.fold m 0 (ss.map Stp.fchg) (lookF σ.fr) t=lookF σk.fr t
   rw[d3]
   refine Chg.fold_look (fun j c hj hc hmj htc => ?_) fun j c hj hc hmj htc => ?_
   ·
    obtain⟨o', s', ho', hs', rfl⟩:=get _ hc
    have hf:=Oper.apart_spec (before j hj hmj o' o s' s ho' ho hs' hs).1
    have htc:s'.dst=some t:=htc
    obtain⟨σj,e1,_⟩:=c6 j o' s' (by simpa using ho') hs'
    exact hf.1 t (e1.dst ▸ htc) ht
   ·
    obtain⟨o', s', ho', hs', rfl⟩:=get _ hc
    have hne:k≠j:=fun e=>by rw[e,hmj]at hmk;cases hmk
    have hf:=Oper.apart_spec (behind j (by omega) hmj (Array.getElem?_eq_some_iff.1 ho').1 o o' s s' ho ho' hs hs').1
    have htc:s'.dst=some t:=htc
    obtain⟨σj,e1,_⟩:=c6 j o' s' (by simpa using ho') hs'
    exact hf.2.2 t (e1.dst ▸ htc) ht
  ·
   have hjs:j < ops.size:=c1 ▸ (List.getElem?_eq_some_iff.1 hs').1
   obtain⟨o', _,ho', _⟩:=hsome j hjs
   obtain⟨_,_,_,_,e4⟩:=c6 j o' s' (by simpa using ho') hs'
   rcases Nat.lt_trichotomy j k with hjk|rfl|hjk
   ·
    have:=d4 j s' hjk hs';omega
   ·
    rw[hmj]at hmk;cases hmk
   ·
    have:=e4 k s hjk hs;omega
  ·
   have e1:Chg.fold (Chg.also m k) 0 (ss.map Stp.ochg) (look σ.ob)=s.ochg.ap (Chg.fold m 0 (ss.map Stp.ochg) (look σ.ob)):=Chg.fold_also (by simp[hs]) fun j c hj hc hmj T hT ht=>by
    obtain⟨o', s', ho', hs', rfl⟩:=get _ hc
    exact((Zd0 (behind j hj hmj (Array.getElem?_eq_some_iff.1 ho').1 o o' s s' ho ho' hs hs').2).1 T hT).2 ht
   have e2:Chg.fold (Chg.also m k) 0 (ss.map Stp.fchg) (lookF σ.fr)=s.fchg.ap (Chg.fold m 0 (ss.map Stp.fchg) (lookF σ.fr)):=Chg.fold_also (by simp[hs]) fun j c hj hc hmj T hT ht=>by
    obtain⟨o', s', ho', hs', rfl⟩:=get _ hc
    have hf:=Oper.apart_spec (behind j hj hmj (Array.getElem?_eq_some_iff.1 ho').1 o o' s s' ho ho' hs hs').1
    have ht:s'.dst=some T:=ht
    have hT:s.dst=some T:=hT
    obtain⟨σj,f1,_⟩:=c6 j o' s' (by simpa using ho') hs'
    exact hf.2.1 T (d1.dst ▸ hT) (f1.dst ▸ ht)
   show Hld P B n J _ _ _ a' w'
   rw[e1,e2]
   refine h'.less fun T hT=>⟨⟨hT.1,fun j s' hs' hmj=>hT.2 j s' hs' ?_⟩,hT.2 k s hs (if_pos rfl)⟩
   unfold Chg.also
   split
   ·
    rfl
   ·
    exact hmj
 have main:∀(fuel:Nat) (listed:Array Bool) (a:Act) (w:World),listed.size=ops.size→Shut ops (msk listed)→cnt (msk listed) ops.size≤fuel→I (msk listed) a w→wpAny P .any ops Q fuel listed a w:=by
  intro fuel
  induction fuel with
  | zero =>
   intro listed a w hsz hsh hcn hI
   have hall:=Zhq (Nat.le_zero.1 hcn)
   refine⟨List.eq_nil_iff_forall_not_mem.2 fun i hi => ?_,hend _ a w hall hI⟩
   obtain⟨o,h1,h2,_⟩:=ZeT.1 hi
   have hi' := (Array.getElem?_eq_some_iff.1 h1).1
   have:=hall i hi'
   unfold msk at this
   simp[Array.getD_eq_getD_getElem?,hsz ▸ hi']at this h2
   rw[this]at h2;cases h2
  | succ fuel ih =>
   intro listed a w hsz hsh hcn hI
   refine⟨fun hnil=>hend _ a w (fun j => ?_) hI,fun i hi => ?_⟩
   ·
    induction j using Nat.strongRecOn with
    | _ j ihj =>
     intro hj
     cases hmj:msk listed j with
     | true=>rfl
     | false =>
      exfalso
      obtain⟨o,s,ho,hs⟩:=hsome j hj
      have:j∈Region.ready .any ops listed:=ZeT.2 ⟨o,ho,by
       unfold msk at hmj
       simpa [Array.getD_eq_getD_getElem?,hsz ▸ hj] using hmj,fun e he hb=>by
       have hlt:=(hbern j o s ho hs).1 e he hb
       exact ihj e.on hlt (Nat.lt_trans hlt hj)⟩
      rw[hnil]at this
      cases this
   ·
    obtain⟨o,h1,h2,h3⟩:=ZeT.1 hi
    have hi' := (Array.getElem?_eq_some_iff.1 h1).1
    have hmi:msk listed i=false:=by
     unfold msk
     simpa [Array.getD_eq_getD_getElem?,hsz ▸ hi'] using h2
    have hset:=ZkO (listed:=listed) (i:=i) (hsz ▸ hi')
    refine hstep (msk listed) i o a w hsh h1 hmi h3 hI _ fun a' w' hI' => ih _ a' w' (by simpa using hsz) ?_ ?_ (hset ▸ hI')
    ·
     rw[hset]
     intro j o' ho' hmj e he hb
     unfold Chg.also at hmj ⊢
     split
     ·
      rfl
     ·
      split at hmj
      ·
       rename_i hji
       subst hji
       rw[h1]at ho'
       cases ho'
       exact h3 e he hb
      ·
       exact hsh j o' ho' hmj e he hb
    ·
     rw[hset]
     have:=Zhp hmi hi'
     omega
 have hno:∀j,msk (Array.replicate ops.size false) j=false:=fun j=>by
  unfold msk
  simp only[Array.getD_eq_getD_getElem?,Array.getElem?_replicate]
  split <;> rfl
 refine wp_region_any hm (main ops.size _ a _ (by simp) (fun j o ho hmj=>by rw[hno j]at hmj;cases hmj) (Zkh _) ?_)
 show Hld P B n J _ _ _ a _
 rw[Chg.fold_none _ _ _ fun j _=>hno j,Chg.fold_none _ _ _ fun j _=>hno j]
 obtain⟨ρ,Z,L,h1,h2,h3,h4,h5,h6,h7⟩:=h
 have ht:Trn ρ Z (look σ.ob) w ρ Z (look σ.ob) { w with drawn:=w.drawn+1 }:=⟨rfl,rfl,rfl,Nat.le_refl _,fun _ _ _=>rfl,fun _ h => .inl h,fun _ h => .inl h,fun _ h=>h,fun _ z h=>⟨z,h,rfl⟩⟩
 have hf:=ht.fut h2
 refine⟨ρ,Z,L,h1,?_,hJd h3,fun t av hav=>(h4 t av hav).fut hf,h5,h6,fun T hT=>h7 T hT.1⟩
 exact Zgr h2 (fun _=>False) hf (fun _ _ => .inl rfl) (fun _ _=>rfl) (fun T z _ h8 h9=>⟨fun _ _=>rfl,fun k hk=>(h2.zsep k ⟨T,z,h8,h9,hk⟩).1⟩) (fun _ _ h=>h.elim) (fun _ _ _ h=>h.elim) (Nat.le_refl _) h2.zlt
end
end Go.Proofs.YthmcpmnhdbeahaaGreat.D
namespace Go.Proofs.YthmcpmnhdbeahaaGreat.D
open Go Go.RowKit
structure Bas (pin:Nat) (ρ : Rz) (Z:Nat→Prop) (ob:Obs) (w:World) (ρ' : Rz) (Z' : Nat→Prop) (ob' : Obs) (w' : World):Prop where
 os:w'.os=w.os
 tape:w'.tape=w.tape
 output:w'.output=w.output
 size:w.heap.size≤w'.heap.size
 old:∀k,k < w.heap.size→¬ Own ρ ob k→w'.heap[k]? = w.heap[k]?
 own:∀k,Own ρ' ob' k→Own ρ ob k∨w.heap.size≤k
 zn:∀k,Z' k→Z k∨Own ρ ob k∨w.heap.size≤k
 zm:∀k,Z k→Z' k
 hdr:∀T z,T < pin → ρ T=some z→∃z', ρ' T=some z' ∧ z'.hdr=z.hdr
section
variable {pin:Nat} {ρ ρ' ρ'' : Rz} {Z Z' Z'' : Nat→Prop} {ob ob' ob'' : Obs} {w w' w'' : World}
theorem Bas.refl:Bas pin ρ Z ob w ρ Z ob w:=⟨rfl,rfl,rfl,Nat.le_refl _,fun _ _ _=>rfl,fun _ h => .inl h,fun _ h => .inl h,fun _ h=>h,fun _ z _ h=>⟨z,h,rfl⟩⟩
theorem Bas.trn (h:Bas pin ρ Z ob w ρ' Z' ob' w') (h' : Trn ρ' Z' ob' w' ρ'' Z'' ob'' w''):Bas pin ρ Z ob w ρ'' Z'' ob'' w'' where
 os:=h'.os.trans h.os
 tape:=h'.tape.trans h.tape
 output:=h'.output.trans h.output
 size:=Nat.le_trans h.size h'.size
 old:=fun k hk hn=>(h'.old k (Nat.lt_of_lt_of_le hk h.size) fun ho=>(h.own k ho).elim hn fun h=>by omega).trans (h.old k hk hn)
 own:=fun k hk=>(h'.own k hk).elim (h.own k) fun h1 => .inr (Nat.le_trans h.size h1)
 zn:=fun k hk=>(h'.zn k hk).elim (h.zn k) fun h1=>h1.elim (fun h2 => .inr (h.own k h2)) fun h2 => .inr (.inr (Nat.le_trans h.size h2))
 zm:=fun k hk=>h'.zm k (h.zm k hk)
 hdr:=fun T z hT hz=>by
  obtain⟨z', h1,h2⟩:=h.hdr T z hT hz
  obtain⟨z'', h3,h4⟩:=h'.hdr T z' h1
  exact⟨z'', h3,h4.trans h2⟩
theorem Bas.ren (h:Bas pin ρ Z ob w ρ' Z' ob' w') (h1:∀T,T < pin → ρ'' T = ρ' T) (h2:∀k,Own ρ'' ob'' k→Own ρ' ob' k):Bas pin ρ Z ob w ρ'' Z' ob'' w' where
 os:=h.os
 tape:=h.tape
 output:=h.output
 size:=h.size
 old:=h.old
 own:=fun k hk=>h.own k (h2 k hk)
 zn:=h.zn
 zm:=h.zm
 hdr:=fun T z hT hz=>by
  obtain⟨z', h3,h4⟩:=h.hdr T z hT hz
  exact⟨z', (h1 T hT).trans h3,h4⟩
end
theorem ZcC (ob:List (Nat×Ob)):∀(n:Nat) (l seen:List Nat),∃t,reach ob n l seen=seen++t
 | 0,_,seen=>⟨[],by simp[reach]⟩
 | n+1,[],seen=>⟨[],by simp[reach]⟩
 | n+1,T :: r,seen=>by
  unfold reach
  cases seen.contains T with
  | true=>exact ZcC ob n r seen
  | false =>
   simp only[cond_false]
   split
   ·
    obtain⟨t,ht⟩:=ZcC ob n (r++Zea _) (seen++[T])
    exact⟨[T]++t,by rw[ht];simp⟩
   ·
    obtain⟨t,ht⟩:=ZcC ob n r (seen++[T])
    exact⟨[T]++t,by rw[ht];simp⟩
   ·
    obtain⟨t,ht⟩:=ZcC ob n (r++[_]) (seen++[T])
    exact⟨[T]++t,by rw[ht];simp⟩
   ·
    exact ZcC ob n r seen
theorem Zb9 (ob:List (Nat×Ob)):∀(n:Nat) (l seen:List Nat),seen.Nodup→(reach ob n l seen).Nodup
 | 0,_,seen,h=>by simpa [reach] using h
 | n+1,[],seen,h=>by simpa [reach] using h
 | n+1,T :: r,seen,h=>by
  unfold reach
  cases hc:seen.contains T with
  | true=>exact Zb9 ob n r seen h
  | false =>
   have h' : (seen++[T]).Nodup:=by
    rw[List.nodup_append]
    refine⟨h,by simp,fun a ha b hb => ?_⟩
    rw[List.mem_singleton.1 hb]
    intro e
    subst e
    simp at hc
    exact hc ha
   simp only[cond_false]
   split
   ·
    exact Zb9 ob n _ _ h'
   ·
    exact Zb9 ob n _ _ h'
   ·
    exact Zb9 ob n _ _ h'
   ·
    exact Zb9 ob n _ _ h
theorem Zfp {T:Nat}:∀{s:List Nat} {i k:Nat},posOf T s i=some k→∃j,k=i+j∧s[j]? = some T
 | [],_,_,h=>by cases h
 | U :: r,i,k,h=>by
  unfold posOf at h
  cases hb:Nat.beq T U with
  | true =>
   rw[hb]at h
   cases h
   obtain rfl:=Nat.eq_of_beq_eq_true hb
   exact⟨0,rfl,rfl⟩
  | false =>
   rw[hb]at h
   obtain⟨j,h1,h2⟩:=Zfp (s:=r) h
   exact⟨j+1,by omega,by simpa using h2⟩
section
variable {P:Program} {B Z:Nat→Prop} {ρ : Rz} {w:World} {s:List Nat}
def renR (s:List Nat) (ρ : Rz):Rz:=fun i=>(s[i]?).bind ρ
theorem ZcO {T i:Nat} (h:posOf T s 0=some i):renR s ρ i = ρ T:=by
 obtain⟨j,h1,h2⟩:=Zfp h
 rw[Nat.zero_add]at h1
 subst h1
 unfold renR
 rw[h2];rfl
theorem CapsR.ren:∀{caps c:List (Nat×Nat)} {vs:List Value},ZfZ s caps=some c→CapsR ρ caps vs→CapsR (renR s ρ) c vs
 | [],c,vs,h,hc=>by cases h;exact hc
 | (T,o) :: r,c,vs,h,⟨v,vs', h1,⟨z,g,h2,h3,h4⟩,h5⟩=>by
  unfold ZfZ at h
  split at h
  ·
   rename_i i l hi hl
   cases h
   exact⟨v,vs', h1,⟨z,g,(ZcO hi).trans h2,h3,h4⟩,CapsR.ren hl h5⟩
  ·
   cases h
theorem LR.ren {v:Value}:∀{l:Lf},LR P B ρ Z w l v→LR P B (renR s ρ) Z w (renLf s l) v
 | .int _ _,h=>h
 | .cnd _ _ _,h=>h
 | .str _,h=>h
 | .raw _,h=>h
 | .sl _ _,h=>h
 | .nil,h=>h
 | .own T,h=>by
  unfold renLf
  simp only
  split
  ·
   rename_i i hi
   obtain⟨z,h1,h2⟩:=h
   exact⟨z,(ZcO hi).trans h1,h2⟩
  ·
   exact h.one rfl
 | .sub T j,h=>by
  unfold renLf
  simp only
  split
  ·
   rename_i i hi
   obtain⟨z,g,n,c,h1,h2⟩:=h
   exact⟨z,g,n,c,(ZcO hi).trans h1,h2⟩
  ·
   exact LR.one (P:=P) (B:=B) (ρ := ρ) (Z:=Z) (w:=w) (l := .sub T j) h rfl
 | .box T o,h=>by
  unfold renLf
  simp only
  split
  ·
   rename_i i hi
   obtain⟨z,g,h1,h2⟩:=h
   exact⟨z,g,(ZcO hi).trans h1,h2⟩
  ·
   exact LR.one (P:=P) (B:=B) (ρ := ρ) (Z:=Z) (w:=w) (l := .box T o) h rfl
 | .elt T i z o,h=>by
  unfold renLf
  simp only
  split
  ·
   rename_i j hj
   obtain⟨z,g,n,c,h1,h2⟩:=h
   exact⟨z,g,n,c,(ZcO hj).trans h1,h2⟩
  ·
   exact h.one rfl
 | .vpt _ _ _,h=>h
 | .fn _ _ _,h=>h
 | .clo g caps,h=>by
  unfold renLf
  simp only
  split
  ·
   rename_i c hc
   obtain⟨vs,h1,h2⟩:=h
   exact⟨vs,h1,h2.ren hc⟩
  ·
   exact h.one rfl
 | .undef,h=>h
 | .top,h=>h
 | .emp _,h=>h
 | .pre T j,h=>by
  unfold renLf
  simp only
  split
  ·
   rename_i i hi
   obtain⟨z,g,n,c,h1,h2⟩:=h
   exact⟨z,g,n,c,(ZcO hi).trans h1,h2⟩
  ·
   exact LR.one (P:=P) (B:=B) (ρ := ρ) (Z:=Z) (w:=w) (l := .pre T j) h rfl
theorem LRs.ren:∀{ls:List Lf} {vs:List Value},LRs P B ρ Z w ls vs→LRs P B (renR s ρ) Z w (Ze0 s ls) vs
 | [],_,h=>h
 | l :: r,_,⟨v,vs', h1,h2,h3⟩=>⟨v,vs', h1,h2.ren,LRs.ren h3⟩
theorem TupR.ren:∀{ps:List (Bool×List Lf)} {vs:List Value},TupR P B ρ Z w ps vs→TupR P B (renR s ρ) Z w (Zi8 s ps) vs
 | [],_,h=>h
 | (b,ls) :: r,_,⟨v,vs', cs,h1,h2,h3,h4⟩=>⟨v,vs', cs,h1,h2.ren,h3,TupR.ren h4⟩
theorem AR.ren {v:Value}:∀{av:AV},AR P B ρ Z w av v→AR P B (renR s ρ) Z w (renAV s av) v
 | .lf _,h=>LR.ren h
 | .agg _,⟨vs,h1,h2⟩=>⟨vs,h1,h2.ren⟩
 | .tup _,⟨vs,h1,h2⟩=>⟨vs,h1,h2.ren⟩
theorem ZjX:∀{l:Lf},l.ok=true→(renLf s l).ok=true
 | .int _ _,h=>h
 | .cnd _ _ _,h=>h
 | .str _,h=>h
 | .raw _,h=>h
 | .sl _ _,h=>h
 | .nil,h=>h
 | .own T,h=>by unfold renLf;simp only;split <;> rfl
 | .sub T _,h=>by unfold renLf;simp only;split <;> rfl
 | .pre T _,h=>by unfold renLf;simp only;split <;> rfl
 | .box T _,h=>by unfold renLf;simp only;split <;> rfl
 | .elt T _ _ _,h=>by unfold renLf;simp only;split <;> rfl
 | .vpt _ _ _,h=>h
 | .fn _ _ _,h=>h
 | .clo _ _,h=>by unfold renLf;simp only;split <;> rfl
 | .undef,h=>h
 | .top,h=>h
 | .emp _,h=>h
theorem ZgE:∀{ls:List Lf},lfsOk ls=true→lfsOk (Ze0 s ls)=true
 | [],h=>h
 | l :: r,h=>by
  simp only[Ze0,lfsOk,Bool.and_eq_true]at h ⊢
  exact⟨ZjX h.1,ZgE h.2⟩
theorem OR.ren {o o' : Ob} {z:Rzv} (h:OR P B ρ Z w o z) (he:renOb s o=some o'):OR P B (renR s ρ) Z w o' z:=by
 cases o with
 | box t ro cells =>
  cases he
  obtain⟨g,vs,h1,h2,h3,h4,h5⟩:=h
  exact⟨g,vs,h1,h2,h3.ren,ZgE h4,h5⟩
 | row e m t xs=>cases he;exact h
 | hole e t xs j n =>
  unfold renOb at he
  simp only at he
  split at he
  ·
   rename_i i hi
   cases he
   obtain⟨zn,h1,h2⟩:=h
   exact⟨zn,(ZcO hi).trans h1,h2⟩
  ·
   cases he
theorem ZhA (t:Nat):∀fr:List (Nat×AV),lk t (renFr s fr)=(lk t fr).map (renAV s)
 | []=>rfl
 | (n,v) :: r=>by
  by_cases h:t=n
  ·
   subst h;simp[renFr,lk]
  ·
   simp[renFr,lk,Zby h,ZhA t r]
theorem ZgZ (t:Nat) (fr:List (Nat×AV)):∀(live:List Nat) (v:AV),lk t (keep fr live)=some v→lk t fr=some v
 | [],v,h=>by cases h
 | n :: r,v,h=>by
  unfold keep at h
  split at h
  ·
   rename_i v' hv
   by_cases hn:t=n
   ·
    subst hn
    simp[lk]at h
    rw[hv,h]
   ·
    simp[lk,Zby hn]at h
    exact ZgZ t fr r v h
  ·
   exact ZgZ t fr r v h
theorem ZdN (ob:List (Nat×Ob)):∀(l:List Nat) (i k:Nat) (o:Ob),lk k (Zcy s ob l i)=some o→∃j T o', k=i+j∧l[j]? = some T∧lk T ob=some o' ∧ renOb s o' = some o
 | [],_,_,_,h=>by cases h
 | T :: r,i,k,o,h=>by
  unfold Zcy at h
  have next:lk k (Zcy s ob r (i+1))=some o→∃j T' o', k=i+j∧(T :: r)[j]? = some T' ∧ lk T' ob=some o' ∧ renOb s o' = some o:=fun h=>by
   obtain⟨j,T', o', h1,h2,h3⟩:=ZdN ob r (i+1) k o h
   exact⟨j+1,T', o', by omega,by simpa using h2,h3⟩
  split at h
  ·
   rename_i o' ho
   by_cases hk:k=i
   ·
    subst hk
    simp[lk]at h
    cases hT:lk T ob with
    | none=>rw[hT]at ho;cases ho
    | some o2 =>
     rw[hT]at ho
     exact⟨0,T,o2,rfl,rfl,hT,ho.trans (by rw[h])⟩
   ·
    simp[lk,Zby hk]at h
    exact next h
  ·
   exact next h
theorem Zi9 {ob:List (Nat×Ob)} {k:Nat} (h:Own (renR s ρ) (look (Zcy s ob s 0)) k):∃(i T:Nat) (z:Rzv),s[i]? = some T∧(lk T ob).isSome=true ∧ ρ T=some z∧z.F k:=by
 obtain⟨i,z,h1,h2,h3⟩:=h
 have h1:(lk i (Zcy s ob s 0)).isSome=true:=h1
 cases hl:lk i (Zcy s ob s 0)with
 | none=>rw[hl]at h1;cases h1
 | some o =>
  obtain⟨j,T,o', e,g2,g3,_⟩:=ZdN ob s 0 i o hl
  have e:i=j:=by omega
  subst e
  unfold renR at h2
  rw[g2]at h2
  exact⟨i,T,z,g2,by rw[g3];rfl,h2,h3⟩
theorem ZkM {ob:List (Nat×Ob)} (hn:s.Nodup) (hm:Mem P B ρ Z (look ob) w):Mem P B (renR s ρ) Z (look (Zcy s ob s 0)) w:=by
 have get:∀i z,(lk i (Zcy s ob s 0)).isSome=true→renR s ρ i=some z→∃T,s[i]? = some T∧(lk T ob).isSome=true ∧ ρ T=some z:=fun i z h1 h2=>by
  cases hl:lk i (Zcy s ob s 0)with
  | none=>rw[hl]at h1;cases h1
  | some o =>
   obtain⟨j,T,o', e,g2,g3,_⟩:=ZdN ob s 0 i o hl
   have e:i=j:=by omega
   subst e
   unfold renR at h2
   rw[g2]at h2
   exact⟨T,g2,by rw[g3];rfl,h2⟩
 have own:∀k,Own (renR s ρ) (look (Zcy s ob s 0)) k→Own ρ (look ob) k:=fun k hk=>by
  obtain⟨i,T,z,_,h2,h3,h4⟩:=Zi9 hk
  exact⟨T,z,h2,h3,h4⟩
 refine⟨fun i o ho => ?_,fun i j z z' k hne h1 h2 h3 h4 h5 h6 => ?_,fun k hk=>hm.zsep k (own k hk),hm.zlt,fun k hk=>hm.bsep k (own k hk),hm.blt⟩
 ·
  obtain⟨j,T,o', e,g2,g3,g4⟩:=ZdN ob s 0 i o ho
  have e:i=j:=by omega
  subst e
  obtain⟨z,k1,k2⟩:=hm.obj T o' g3
  exact⟨z,by unfold renR;rw[g2];exact k1,k2.ren g4⟩
 ·
  obtain⟨T,a1,a2,a3⟩:=get i z h1 h3
  obtain⟨U,b1,b2,b3⟩:=get j z' h2 h4
  refine hm.sep T U z z' k (fun e=>hne ?_) a2 b2 a3 b3 h5 h6
  subst e
  have hi:=(List.getElem?_eq_some_iff.1 a1).1
  have hj:=(List.getElem?_eq_some_iff.1 b1).1
  exact(List.getElem?_inj hi hn).1 (a1.trans b1.symm)
end
section
variable {P:Program} {B:Nat→Prop} {n pin:Nat} {ρ0:Rz} {Z0:Nat→Prop} {ob0:Obs} {w0:World} {a:Act} {w:World}
abbrev At (P:Program) (B:Nat→Prop) (n pin:Nat) (ρ0:Rz) (Z0:Nat→Prop) (ob0:Obs) (w0:World) (σ : St) (a:Act) (w:World):Prop:=HldS P B n (Bas pin ρ0 Z0 ob0 w0) σ a w
theorem ZiU {σ : St} (h:At P B n pin ρ0 Z0 ob0 w0 σ a w) (live:List Nat):At P B n pin ρ0 Z0 ob0 w0 (σ.norm pin live) a w:=by
 obtain⟨ρ,Z,L,h1,h2,h3,h4,h5,h6,h7⟩:=h
 have e:∃l,σ.norm pin live=⟨renFr (reach σ.ob 100000 l (List.range pin)) (keep σ.fr live),Zcy (reach σ.ob 100000 l (List.range pin)) σ.ob (reach σ.ob 100000 l (List.range pin)) 0,(reach σ.ob 100000 l (List.range pin)).length⟩:=⟨_,rfl⟩
 obtain⟨l,e⟩:=e
 rw[e]
 generalize hs:reach σ.ob 100000 l (List.range pin)=s
 have hn:s.Nodup:=hs ▸ Zb9 σ.ob 100000 l _ List.nodup_range
 obtain⟨t,ht⟩:=ZcC σ.ob 100000 l (List.range pin)
 rw[hs]at ht
 refine⟨renR s ρ,Z,_,rfl,ZkM hn h2,h3.ren (fun T hT => ?_) (fun k hk => ?_),fun t av hav => ?_,h5,h6,fun T (hT:s.length≤T) => ?_⟩
 ·
  unfold renR
  rw[ht,List.getElem?_append_left (by simpa using hT),List.getElem?_range hT]
  rfl
 ·
  obtain⟨i,T,z,_,g2,g3,g4⟩:=Zi9 hk
  exact⟨T,z,g2,g3,g4⟩
 ·
  have hav:lk t (renFr s (keep σ.fr live))=some av:=hav
  rw[ZhA]at hav
  cases hk:lk t (keep σ.fr live)with
  | none=>rw[hk]at hav;cases hav
  | some v =>
   rw[hk]at hav
   cases hav
   exact(h4 t v (ZgZ t σ.fr live v hk)).ren
 ·
  unfold renR
  rw[List.getElem?_eq_none hT];rfl
theorem Zb8 (lv:List Nat):∀(l:List Nat) (ob:List (Nat×Ob)) (ρ : Rz) (Z:Nat→Prop),Mem P B ρ Z (look ob) w→∃ρ', Mem P B ρ' Z (look (ZcI lv l ob)) w∧Trn ρ Z (look ob) w ρ' Z (look (ZcI lv l ob)) w∧∀T,ρ T=none → ρ' T=none
 | [],ob,ρ,Z,hm=>⟨ρ,hm,Trn.refl _ _ _ _,fun _ h=>h⟩
 | T :: r, ob,ρ,Z,hm=>by
  unfold ZcI
  split
  ·
   rename_i e e' t xs j n ho
   split
   ·
    rename_i e2 t2 ys hn
    split
    ·
     rename_i hh _
     cases hc:Nat.beq e2 e' && !(Nat.beq n T) && !(nf e') && !(lv.contains n)with
     | false=>exact Zb8 lv r ob ρ Z hm
     | true =>
      rw[Bool.and_eq_true,Bool.and_eq_true,Bool.and_eq_true,Bool.not_eq_true', Bool.not_eq_true']at hc
      obtain⟨⟨⟨he,hne⟩,hnf⟩,_⟩:=hc
      obtain rfl:=Nat.eq_of_beq_eq_true he
      obtain⟨hh⟩:=hh
      subst hh
      have hnT:n≠T:=fun e=>by subst e;simp at hne
      obtain⟨z,hz,zn,hzn,inner,h2,h3,h4,Fs,h5,h6,h7⟩:=hm.obj T _ ho
      obtain⟨zn', hzn', hrow⟩:=hm.obj n _ hn
      obtain rfl:zn' = zn:=Option.some.inj (hzn'.symm.trans hzn)
      have hTs:(lk T ob).isSome=true:=by rw[ho];rfl
      have hns:(lk n ob).isSome=true:=by rw[hn];rfl
      have hsep:∀k,z.F k→¬ zn'.F k:=fun k hk hk' => hm.sep T n z zn' k (Ne.symm hnT) hTs hns hz hzn hk hk'
      have hOf:∀k,z.F k∨zn'.F k→Of ρ [T,n] k:=fun k hk=>hk.elim (fun h=>⟨T,z,by simp,hz,h⟩) fun h=>⟨n,zn', by simp,hzn,h⟩
      have hal:Alive ob [T,n]:=fun U hU=>by
       rcases List.mem_cons.1 hU with rfl|hU
       ·
        exact hTs
       ·
        rw[List.mem_singleton.1 hU];exact hns
      obtain ⟨m1,m2⟩:=ZeS hm (n:=T) (o := .row e true (.sl e2 t2) (List.set (α := List t2.den) xs j ys)) (z:=⟨z.hdr,fun k=>z.F k∨zn'.F k⟩) (c:=[T,n]) (del:=[n]) (w' := w) hal
       (fun U hU=>(List.mem_cons.1 hU).imp id id) (fun h=>hnT (List.mem_singleton.1 h).symm) (fun z0 h=>by rw[hz]at h;cases h;rfl) rfl rfl rfl (Nat.le_refl _)
       (fun _ z0 h k hk=>by rw[hz]at h;cases h;exact hOf k (.inl hk)) (fun _ _ _=>rfl) (fun k hk=>⟨.inl (hOf k hk),(hm.zsep k ((hOf k hk).own hal)).2⟩) (by
       refine⟨inner,by rw[List.length_set];exact h2,fun k hk => .inl (h3 k hk),fun i=>if i=j then zn'.F else Fs i,fun i p hp => ?_,fun i k hk => ?_,fun a b k hab hk => ?_⟩
       ·
        by_cases hi:i=j
        ·
         subst hi
         have hlt:=(List.getElem?_eq_some_iff.1 hp).1
         rw[List.getElem?_set_self (by simpa using hlt)]at hp
         cases hp
         rw[h4]
         simp only[if_pos]
         exact⟨zn'.hdr,rfl,hrow,fun h=>by rw[hnf]at h;cases h⟩
        ·
         rw[List.getElem?_set_ne (Ne.symm hi)]at hp
         simp only[if_neg hi]
         exact h5 i p hi hp
       ·
        by_cases hi:i=j
        ·
         simp only[if_pos hi]at hk
         exact⟨.inr hk,fun e=>hsep k (h3 k e) hk⟩
        ·
         simp only[if_neg hi]at hk
         exact⟨.inl (h6 i k hi hk).1,(h6 i k hi hk).2⟩
       ·
        by_cases ha:a=j
        ·
         have hb:b≠j:=fun e=>hab (ha.trans e.symm)
         simp only[if_pos ha]at hk
         simp only[if_neg hb]
         exact fun h=>hsep k (h6 b k hb h).1 hk
        ·
         simp only[if_neg ha]at hk
         by_cases hb:b=j
         ·
          simp only[if_pos hb]
          exact hsep k (h6 a k ha hk).1
         ·
          simp only[if_neg hb]
          exact h7 a b k hab ha hb hk)
      obtain⟨ρ', g1,g2,g3⟩:=Zb8 lv r _ _ Z m1
      refine⟨ρ', g1,m2.trans g2,fun U hU=>g3 U ?_⟩
      unfold upd
      rw[if_neg fun e=>by rw[e,hz]at hU;cases hU]
      exact hU
    ·
     exact Zb8 lv r ob ρ Z hm
   ·
    exact Zb8 lv r ob ρ Z hm
  ·
   exact Zb8 lv r ob ρ Z hm
theorem Zho {σ : St} (h:At P B n pin ρ0 Z0 ob0 w0 σ a w) (live:List Nat):At P B n pin ρ0 Z0 ob0 w0 (σ.close live) a w:=by
 obtain⟨ρ,Z,L,h1,h2,h3,h4,h5,h6,h7⟩:=h
 obtain⟨ρ', g1,g2,g3⟩:=Zb8 (ZhK (keep σ.fr live)) (keys σ.ob) σ.ob ρ Z h2
 exact⟨ρ', Z,_,rfl,g1,h3.trn g2,fun t av hav=>(h4 t av hav).fut (g2.fut h2),h5,h6,fun T hT=>g3 T (h7 T hT)⟩
theorem Zf4:∀(l:List Nat) (ob:List (Nat×Ob)) (ρ : Rz) (Z:Nat→Prop),Mem P B ρ Z (look ob) w→∃ρ' Z', Mem P B ρ' Z' (look (shKs l ob)) w∧Trn ρ Z (look ob) w ρ' Z' (look (shKs l ob)) w∧∀T,ρ T=none → ρ' T=none
 | [],ob,ρ,Z,hm=>⟨ρ,Z,hm,Trn.refl _ _ _ _,fun _ h=>h⟩
 | T :: r,ob,ρ,Z,hm=>by
  unfold shKs
  split
  ·
   rename_i et e' t xs ho
   obtain⟨ρ2,Z2,g1,g2,g3⟩:=Zko (L' := pts [(T,.row et false (.sl e' t) xs)] ob) hm ho (fun U=>by
    rw[Zdr U _ _ (by simp[keys,nodup])]
    by_cases hU:U=T
    ·
     subst hU;simp[lk]
    ·
     simp[lk,Zby hU,hU])
   obtain⟨ρ3,Z3,k1,k2,k3⟩:=Zf4 r _ ρ2 Z2 g1
   exact⟨ρ3,Z3,k1,g2.trans k2,fun U hU=>k3 U (g3 U hU)⟩
  ·
   exact Zf4 r ob ρ Z hm
theorem sh_at {σ : St} (h:At P B n pin ρ0 Z0 ob0 w0 σ a w):At P B n pin ρ0 Z0 ob0 w0 σ.sh a w:=by
 obtain⟨ρ,Z,L,h1,h2,h3,h4,h5,h6,h7⟩:=h
 obtain⟨ρ', Z', g1,g2,g3⟩:=Zf4 (keys σ.ob) σ.ob ρ Z h2
 exact⟨ρ', Z', _,rfl,g1,h3.trn g2,fun t av hav=>(h4 t av hav).fut (g2.fut h2),h5,h6,fun T hT=>g3 T (h7 T hT)⟩
theorem ZiV {E:Env} (hp:E.pin=pin) {σ : St} (h:At P B n pin ρ0 Z0 ob0 w0 σ a w) (id:Option Nat):At P B n pin ρ0 Z0 ob0 w0 (nrm E id σ) a w:=by
 unfold nrm
 split
 ·
  split
  ·
   rw[hp]
   cases E.rows.contains _ with
   | false=>exact ZiU (Zho h _) _
   | true=>exact sh_at (ZiU (Zho h _) _)
  ·
   exact h
 ·
  exact h
end
end Go.Proofs.YthmcpmnhdbeahaaGreat.D
namespace Go.Proofs.YthmcpmnhdbeahaaGreat.D
open Go Go.RowKit
def Ex.to:Ex→Exit
 | .normal => .normal
 | .exit id => .exit id
 | .ret => .ret
section
variable {P:Program} {B:Nat→Prop} {E:Env} {ρ0:Rz} {Z0:Nat→Prop} {ob0:Obs} {w0:World}
theorem Zix {σ : St} {a:Act} {w:World} {n pin:Nat} (h:At P B n pin ρ0 Z0 ob0 w0 σ a w) {c:Operand} {m:Bool} {p:Prop} {d:Decidable p} (hc:ev σ.fr c=some (.lf (.cnd m p d))):a.eval c = .bool (bval m p d):=by
 obtain⟨ρ,Z,L,h1,h2,h3,h4,h5,h6,h7⟩:=h
 have:AR P B ρ Z w (.lf (.cnd m p d)) (a.eval c):=by
  cases c with
  | tmp t=>exact h4 t _ hc
  | const v=>exact Zfb hc
  | global g=>cases hc
  | func f=>cases hc
 exact this
theorem ZiN {c:Code} {Q:Exit→Act→World→Prop} {p:Ex×St} {f:St→Option (Ex×St)} {I:St→Act→World→Prop}
  (hbody:∀σ a w r,f σ = some r→I σ a w→c.wp P (fun e a' w' => match e with
   | .normal=>r.1 = .normal∧I r.2 a' w'
   | e=>r.1 ≠ .normal∧(∀(σ' : St),r=p→Q e a' w')) a w):∀(n:Nat) (σ : St) (a:Act) (w:World),iter f n σ = some p→I σ a w→(Code.loop c).wp P Q a w:=by
 intro n σ a w h hI
 refine wp_loop_ghost (fun n a w=>∃σ,I σ a w∧iter f n σ = some p) n ⟨σ,hI,h⟩ fun n a w ⟨σ,hI,h⟩ => ?_
 cases n with
 | zero=>cases h
 | succ n =>
  unfold iter at h
  cases hf:f σ with
  | none=>rw[hf]at h;cases h
  | some r =>
   rw[hf]at h
   refine wp_mono (hbody σ a w r hf hI) fun e a' w' hq => ?_
   obtain⟨x,s⟩:=r
   cases e with
   | normal =>
    obtain⟨h1,h2⟩:=hq
    have h1:x = .normal:=h1
    subst h1
    exact⟨n,Nat.lt_succ_self n,s,h2,h⟩
   | _ =>
    obtain⟨h1,h2⟩:=hq
    have h1:x ≠ .normal:=h1
    cases x with
    | normal=>exact absurd rfl h1
    | _=>exact h2 s (Option.some.inj h)
theorem ZhR (hE:EnvOk P E) (hm:P.follows .mixedOrders=true):∀(c:Code) {β : Type} (K:Ex→St→Option β) (r : β) (σ : St) (a:Act) (w:World) (Q:Exit→Act→World→Prop),denC E c σ K=some r→At P B E.n E.pin ρ0 Z0 ob0 w0 σ a w →
  (∀ex σ' a' w', K ex σ' = some r→At P B E.n E.pin ρ0 Z0 ob0 w0 σ' a' w' → Q ex.to a' w')→c.wp P Q a w:=by
 intro c
 induction c with
 | skip =>
  intro β K r σ a w Q h hat hQ
  exact wp_skip (hQ .normal σ a w (by simpa only[denC] using h) hat)
 | region id ops draw =>
  intro β K r σ a w Q h hat hQ
  simp only[denC]at h
  obtain⟨ss,σ', h1,h2⟩:=Zc3 (B:=B) (n:=E.n) hE rfl (all:=ops) _ _ _ _ (fun g b hg=>by cases hg) h
  have hn:=ZiV (E:=E) rfl hat (some id)
  have hJ:Stays (Bas E.pin ρ0 Z0 ob0 w0):=fun h t=>h.trn t
  cases draw with
  | false=>exact Zhd hJ h2 hn fun a' w' h' => hQ .normal σ' a' w' h1 h'
  | true =>
   simp only[cond_true,List.reverse_nil,List.nil_append]at h1
   cases hb:bern ops (ss.map fun s=>(s.need,s.tch))with
   | false=>rw[hb]at h1;cases h1
   | true =>
    rw[hb]at h1
    exact Zh6 hm hJ (fun {ρ Z ob w} h=>h.trn ⟨rfl,rfl,rfl,Nat.le_refl _,fun _ _ _=>rfl,fun _ h => .inl h,fun _ h => .inl h,fun _ h=>h,fun _ z h=>⟨z,h,rfl⟩⟩) h2 hb hn fun a' w' h' => hQ .normal σ' a' w' h1 h'
 | seq x y ihx ihy =>
  intro β K r σ a w Q h hat hQ
  simp only[denC]at h
  refine wp_seq (ihx _ r σ a w _ h hat fun ex σ' a' w' hk hat' => ?_)
  cases ex with
  | normal=>exact ihy K r σ' a' w' Q hk hat' hQ
  | exit i=>exact hQ (.exit i) σ' a' w' hk hat'
  | ret=>exact hQ .ret σ' a' w' hk hat'
 | cond c x y ihx ihy =>
  intro β K r σ a w Q h hat hQ
  simp only[denC]at h
  split at h
  ·
   rename_i m p d hc
   have hev:=Zix hat hc
   refine wp_cond hev ?_
   by_cases hp:p
   ·
    rw[if_pos hp]at h
    have hv:bval m p d = !m:=by unfold bval;rw[decide_eq_true hp];cases m <;> rfl
    rw[hv]
    cases m with
    | true=>exact ihy K r σ a w Q h hat hQ
    | false=>exact ihx K r σ a w Q h hat hQ
   ·
    rw[if_neg hp]at h
    have hv:bval m p d=m:=by unfold bval;rw[decide_eq_false hp];cases m <;> rfl
    rw[hv]
    cases m with
    | true=>exact ihx K r σ a w Q h hat hQ
    | false=>exact ihy K r σ a w Q h hat hQ
  ·
   cases h
 | block id c ih =>
  intro β K r σ a w Q h hat hQ
  simp only[denC]at h
  refine wp_block (ih _ r σ a w _ h hat fun ex σ' a' w' hk hat' => ?_)
  cases ex with
  | normal=>exact hQ .normal σ' a' w' hk hat'
  | exit i =>
   show if i=id then Q .normal a' w' else Q (.exit i) a' w'
   unfold blkK at hk
   by_cases hi:i=id
   ·
    subst hi
    rw[if_pos rfl]
    simp at hk
    exact hQ .normal σ' a' w' hk hat'
   ·
    rw[if_neg hi]
    simp only[Zby hi,cond_false]at hk
    exact hQ (.exit i) σ' a' w' hk hat'
  | ret=>exact hQ .ret σ' a' w' hk hat'
 | loop c ih =>
  intro β K r σ a w Q h hat hQ
  simp only[denC]at h
  cases hl:loopR (fun s=>denC E c s (backK E (rid c))) (nrm E (rid c) σ)with
  | none=>rw[hl]at h;cases h
  | some p =>
   rw[hl]at h
   have h:K p.1 p.2=some r:=h
   unfold loopR at hl
   split at hl
   ·
    refine ZiN (p:=p) (I:=fun σ a w=>At P B E.n E.pin ρ0 Z0 ob0 w0 σ a w) (fun σ a w r' hf hI => ?_) _ _ a w hl (ZiV rfl hat _)
    refine ih _ r' σ a w _ hf hI fun ex σ' a' w' hk hat' => ?_
    cases ex with
    | normal =>
     have hk:some (Ex.normal,nrm E (rid c) σ')=some r' := hk
     cases hk
     exact⟨rfl,ZiV rfl hat' _⟩
    | exit i =>
     have hk:some (Ex.exit i,σ')=some r' := hk
     cases hk
     exact⟨fun h=>(by cases h),fun _ hp=>by subst hp;exact hQ (.exit i) σ' a' w' h hat'⟩
    | ret =>
     have hk:some (Ex.ret,σ')=some r' := hk
     cases hk
     exact⟨fun h=>(by cases h),fun _ hp=>by subst hp;exact hQ .ret σ' a' w' h hat'⟩
   ·
    cases hl
 | exit id =>
  intro β K r σ a w Q h hat hQ
  exact wp_exit (hQ (.exit id) σ a w (by simpa only[denC] using h) hat)
 | ret =>
  intro β K r σ a w Q h hat hQ
  exact wp_ret (hQ .ret σ a w (by simpa only[denC] using h) hat)
 | _=>intro β K r σ a w Q h hat hQ;simp[denC]at h
end
end Go.Proofs.YthmcpmnhdbeahaaGreat.D
namespace Go.Proofs.YthmcpmnhdbeahaaGreat.D
open Go Go.RowKit
section
variable {P:Program} {B Z:Nat→Prop} {w:World}
theorem ZcH {ρ : Rz}:∀(ss:List LS) (x:lsd ss) (nx:Nat) (vs:List Value),LRs P B ρ Z w (mkLfs ss x nx).1 vs→Zcj ρ ss vs (Zb5 ss nx).1∧(Zb5 ss nx).2=(mkLfs ss x nx).2.2
 | [],x,nx,vs,h=>⟨rfl,rfl⟩
 | .v t :: ss,x,nx,_,⟨v,vs', e,h1,h2⟩=>by
  obtain⟨k1,k2⟩:=ZcH ss x.2 nx vs' h2
  exact⟨⟨v,vs', [],_,e,rfl,rfl,k1⟩,k2⟩
 | .fn asx r :: ss,x,nx,_,⟨v,vs', e,h1,h2⟩=>by
  obtain⟨k1,k2⟩:=ZcH ss x.2 nx vs' h2
  exact⟨⟨v,vs', [],_,e,rfl,rfl,k1⟩,k2⟩
 | .own e m t :: ss,x,nx,_,⟨v,vs', e1,⟨z,h3,h4,_⟩,h2⟩=>by
  obtain⟨k1,k2⟩:=ZcH ss x.2 (nx+1) vs' h2
  exact⟨⟨v,vs', [nx],_,e1,rfl,⟨nx,z,rfl,h3,h4.symm⟩,k1⟩,k2⟩
theorem Puts.ro {T:Nat} {t:TypeId} {os:List (Nat×Ob)} {zl:List (Nat×Rzv)} {ls:List Lf} {us:List Value} {g:Nat} {F F0:Nat→Prop} (h:Puts P B Z w os zl F) (hok:lfsOk ls=true) (hl:∀ρ' : Rz,(∀T z,lk T zl=some z → ρ' T=some z)→LRs P B ρ' Z w ls us) (hg:w.heap[g]? = some (.cells us.toArray t (0,0))) (hgB:B g) (hs:∀k,F k→F0 k) (hT:T ∉ keys zl) :
  Puts P B Z w ((T,.box t true ls) :: os) ((T,⟨.pointer (some ⟨g,0,none⟩),fun _=>False⟩) :: zl) F0:=by
 have cut:∀{U:Nat} {z:Rzv},lk U ((T,(⟨.pointer (some ⟨g,0,none⟩),fun _=>False⟩:Rzv)) :: zl)=some z→(U=T∧z=⟨.pointer (some ⟨g,0,none⟩),fun _=>False⟩)∨(U≠T∧lk U zl=some z):=by
  intro U z h
  by_cases hU:U=T
  ·
   subst hU
   simp[lk]at h
   exact .inl ⟨rfl,h.symm⟩
  ·
   simp[lk,Zby hU]at h
   exact .inr ⟨hU,h⟩
 refine⟨by simp[keys,h.key],fun U z hz k hk => ?_,fun U U' z z' k hne hz hz' hk hk' => ?_,fun ρ' hρ U o z ho hz => ?_⟩
 ·
  rcases cut hz with ⟨_,rfl⟩|⟨_,hz⟩
  ·
   exact hk.elim
  ·
   exact hs k (h.sub U z hz k hk)
 ·
  rcases cut hz with ⟨e,rfl⟩|⟨e,hy⟩ <;> rcases cut hz' with ⟨e', rfl⟩|⟨e', hy'⟩
  ·
   exact hk
  ·
   exact hk
  ·
   exact hk'
  ·
   exact h.dis U U' z z' k hne hy hy' hk hk'
 ·
  have hp:∀U z,lk U zl=some z → ρ' U=some z:=fun U z hz=>hρ U z (by
   have hU:U≠T:=fun e=>hT (e ▸ ZbL hz)
   simp only[lk,Zby hU,cond_false]
   exact hz)
  rcases cut hz with ⟨rfl,rfl⟩|⟨e,hz⟩
  ·
   simp[lk]at ho
   subst ho
   exact⟨g,us,rfl,hg,hl ρ' hp,hok,(fun h=>by cases h),fun _=>hgB⟩
  ·
   simp only[lk,Zby e,cond_false]at ho
   exact h.ors ρ' hp U o z ho hz
def noOwn:List LS→Bool
 | []=>true
 | .own _ _ _ :: _=>false
 | .v _ :: r=>noOwn r
 | .fn _ _ :: r=>noOwn r
def roOk:List ASh→Bool
 | []=>true
 | .ptr true _ ss :: r=>noOwn ss && roOk r
 | .one _ :: r=>roOk r
 | .agg _ :: r=>roOk r
 | .eat _ _ _ :: r=>roOk r
 | .non :: r=>roOk r
 | .ptr false _ _ :: r=>roOk r
theorem Zd6:∀(ss:List LS) (x:lsd ss) (nx:Nat),noOwn ss=true→(mkLfs ss x nx).2=([],nx)∧(Zb5 ss nx).2=nx
 | [],_,_,_=>⟨rfl,rfl⟩
 | .v t :: ss,x,nx,h=>Zd6 ss x.2 nx h
 | .fn asx r :: ss,x,nx,h=>Zd6 ss x.2 nx h
 | .own _ _ _ :: _,_,_,h=>by cases h
def Pars (P:Program) (B:Nat→Prop) (ρ : Rz) (Z:Nat→Prop) (w:World) (fr:List (Nat×AV)) (t:Nat) (vs:List Value):Prop:=∀u av,lk u fr=some av→∃i v,u=t+i∧vs[i]? = some v∧AR P B ρ Z w av v
theorem Pars.cons {ρ : Rz} {fr:List (Nat×AV)} {t:Nat} {v:Value} {vs:List Value} {av:AV} (h:AR P B ρ Z w av v) (h' : Pars P B ρ Z w fr (t+1) vs):Pars P B ρ Z w ((t,av) :: fr) t (v :: vs):=by
 intro u av' hu
 by_cases e:u=t
 ·
  subst e
  simp[lk]at hu
  subst hu
  exact⟨0,v,rfl,rfl,h⟩
 ·
  simp[lk,Zby e]at hu
  obtain⟨i,v', h1,h2,h3⟩:=h' u av' hu
  exact⟨i+1,v', by omega,by simpa using h2,h3⟩
theorem ZbY:∀(ins:List ASh) (x:lsd (flats ins)) (vs:List Value) (F:Nat→Prop) (t nx:Nat),roOk ins=true→ASRs P B Z w ins x vs F →
  ∃zl,Puts P B Z w (mkIns ins x t nx).2.1 zl F∧Range zl nx (mkIns ins x t nx).2.2 (mkIns ins x t nx).2.1∧vs.length=ins.length∧∀ρ' : Rz,(∀T z,lk T zl=some z → ρ' T=some z)→Pars P B ρ' Z w (mkIns ins x t nx).1 t vs∧ZcT ρ' ins vs (ZbH ins nx)
 | [],x,vs,F,t,nx,_,h=>by
  cases h
  exact⟨[],Puts.nil,Range.nil nx,rfl,fun ρ' _=>⟨(fun u av h=>by cases h),rfl⟩⟩
 | .one s :: r,x,_,F,t,nx,hro,⟨v,vs', F0,F1,e,h2,h3,h4,h5,h6⟩=>by
  subst e
  obtain⟨zl,k1,k2,k3,k4,k5⟩:=Zbt [s] (x.1,()) [v] F0 nx ⟨v,[],F0,fun _=>False,rfl,h2,rfl,fun _ h=>h,fun _ h=>h.elim,fun _ _ h=>h⟩
  obtain⟨zl', m1,m2,m3,m4⟩:=ZbY r x.2 vs' F1 (t+1) (mkLfs [s] (x.1,()) nx).2.2 hro h3
  refine⟨zl++zl', Puts.append k1 m1 (k2.dis m2) h4 h5 h6,k2.append m2,by simp[m3],fun ρ' hρ => ?_⟩
  have hl:=k5 ρ' fun T z h=>hρ T z (ZeP h)
  obtain⟨b1,b2⟩:=ZcH [s] (x.1,()) nx [v] hl
  obtain⟨c1,c2⟩:=m4 ρ' fun T z h=>hρ T z (ZcM (fun hT=>k2.dis m2 T hT (ZbL h)) h)
  constructor
  ·
   refine Pars.cons ?_ c1
   have hlen:(mkLfs [s] (x.1,()) nx).1.length=1:=k4
   generalize (mkLfs [s] (x.1,()) nx).1=ls at hl hlen
   rcases ls with _|⟨l,_|⟨l', ls⟩⟩
   ·
    cases hlen
   ·
    obtain⟨v', e,hv⟩:=hl.one_inv
    cases e
    exact hv
   ·
    simp at hlen
  ·
   obtain⟨v0,vs0,t1,t2,e1,e2,e3,e4⟩:=b1
   cases e1
   cases e4
   refine⟨v,vs', (Zb5 [s] nx).1,ZbH r (mkLfs [s] (x.1,()) nx).2.2,rfl,?_,?_,c2⟩
   ·
    show(Zb5 [s] nx).1++ZbH r (Zb5 [s] nx).2=_
    rw[b2]
   ·
    rw[e2,List.append_nil];exact e3
 | .non :: r,x,_,F,t,nx,hro,⟨v,vs', F0,F1,e,h2,h3,h4,h5,h6⟩=>by
  subst e
  obtain⟨zl', m1,m2,m3,m4⟩:=ZbY r x vs' F1 (t+1) nx hro h3
  refine⟨zl', ⟨m1.key,fun T z h k hk=>h5 k (m1.sub T z h k hk),m1.dis,m1.ors⟩,m2,by simp[m3],fun ρ' hρ => ?_⟩
  obtain⟨c1,c2⟩:=m4 ρ' hρ
  exact⟨Pars.cons (show AR P B ρ' Z w (.lf .nil) v from h2) c1,v,vs', [],ZbH r nx,rfl,rfl,rfl,c2⟩
 | .eat e' m' t' :: r,x,_,F,t,nx,hro,⟨v,vs', F0,F1,e,h2,h3,h4,h5,h6⟩=>by
  subst e
  obtain⟨zl,k1,k2,k3,k4,k5⟩:=Zbt [.own e' m' t'] (x.1,()) [v] F0 nx ⟨v,[],F0,fun _=>False,rfl,h2,rfl,fun _ h=>h,fun _ h=>h.elim,fun _ _ h=>h⟩
  obtain⟨zl', m1,m2,m3,m4⟩:=ZbY r x.2 vs' F1 (t+1) (mkLfs [.own e' m' t'] (x.1,()) nx).2.2 hro h3
  refine⟨zl++zl', Puts.append k1 m1 (k2.dis m2) h4 h5 h6,k2.append m2,by simp[m3],fun ρ' hρ => ?_⟩
  have hl:=k5 ρ' fun T z h=>hρ T z (ZeP h)
  obtain⟨b1,b2⟩:=ZcH [.own e' m' t'] (x.1,()) nx [v] hl
  obtain⟨c1,c2⟩:=m4 ρ' fun T z h=>hρ T z (ZcM (fun hT=>k2.dis m2 T hT (ZbL h)) h)
  constructor
  ·
   refine Pars.cons ?_ c1
   obtain⟨v', vs0,e,hv,_⟩:=hl
   cases e
   exact(show AR P B ρ' Z w (.lf (.own nx)) v from hv)
  ·
   refine⟨v,vs', [],ZbH r (mkLfs [.own e' m' t'] (x.1,()) nx).2.2,rfl,?_,rfl,c2⟩
   show ZbH r (nx+1)=_
   rfl
 | .agg ss :: r,x,_,F,t,nx,hro,⟨v,vs', F0,F1,e,⟨us,e2,h2⟩,h3,h4,h5,h6⟩=>by
  subst e
  obtain⟨zl,k1,k2,k3,k4,k5⟩:=Zbt ss (Zac ss (flats r) x).1 us F0 nx h2
  obtain⟨zl', m1,m2,m3,m4⟩:=ZbY r (Zac ss (flats r) x).2 vs' F1 (t+1) (mkLfs ss (Zac ss (flats r) x).1 nx).2.2 hro h3
  refine⟨zl++zl', Puts.append k1 m1 (k2.dis m2) h4 h5 h6,k2.append m2,by simp[m3],fun ρ' hρ => ?_⟩
  have hl:=k5 ρ' fun T z h=>hρ T z (ZeP h)
  obtain⟨b1,b2⟩:=ZcH ss _ nx us hl
  obtain⟨c1,c2⟩:=m4 ρ' fun T z h=>hρ T z (ZcM (fun hT=>k2.dis m2 T hT (ZbL h)) h)
  exact⟨Pars.cons (av := .agg _) ⟨us,e2,hl⟩ c1,v,vs', (Zb5 ss nx).1,ZbH r (mkLfs ss (Zac ss (flats r) x).1 nx).2.2,rfl,by
   show(Zb5 ss nx).1++ZbH r (Zb5 ss nx).2=_
   rw[b2],⟨us,e2,b1⟩,c2⟩
 | .ptr true ty ss :: r,x,_,F,t,nx,hro,⟨v,vs', F0,F1,e,⟨g,us,F', e2,e3,h2,gB⟩,h3,h4,h5,h6⟩=>by
  subst e
  subst e2
  rw[roOk,Bool.and_eq_true]at hro
  obtain⟨n1,n2⟩:=Zd6 ss (Zac ss (flats r) x).1 (nx+1) hro.1
  obtain⟨zl,k1,k2,k3,k4,k5⟩:=Zbt ss (Zac ss (flats r) x).1 us F' (nx+1) h2
  obtain⟨zl', m1,m2,m3,m4⟩:=ZbY r (Zac ss (flats r) x).2 vs' F1 (t+1) (mkLfs ss (Zac ss (flats r) x).1 (nx+1)).2.2 hro.2 h3
  have hz:zl=[]:=by
   have:=k1.key
   rw[n1]at this
   cases zl with
   | nil=>rfl
   | cons a l=>cases this
  subst hz
  have hR:=Range.one nx ⟨.pointer (some ⟨g,0,none⟩),fun _=>False⟩ (.box ty true (mkLfs ss (Zac ss (flats r) x).1 (nx+1)).1)
  have hB:=Puts.ro (T:=nx) (t:=ty) (F0:=F0) (os:=(mkLfs ss (Zac ss (flats r) x).1 (nx+1)).2.1) (F:=fun _=>False) (by rw[n1];exact Puts.nil) k3 k5 e3 gB (fun k hk=>hk.elim) (fun hT=>by cases hT)
  have hR2:=hR.append k2
  refine⟨((nx,(⟨.pointer (some ⟨g,0,none⟩),fun _=>False⟩:Rzv)) :: [])++zl', Puts.append hB m1 (hR2.dis m2) h4 h5 h6,hR2.append m2,by simp[m3],fun ρ' hρ => ?_⟩
  have hnx:=hρ nx _ (ZeO _ _ _)
  obtain⟨c1,c2⟩:=m4 ρ' fun T z h=>hρ T z (ZcM (fun hT=>hR2.dis m2 T hT (ZbL h)) h)
  refine⟨Pars.cons (av := .lf (.box nx 0)) ⟨_,g,hnx,rfl,rfl⟩ c1,_,vs', [],ZbH r (mkLfs ss (Zac ss (flats r) x).1 (nx+1)).2.2,rfl,?_,rfl,c2⟩
  show(bif true then ZbH r (Zb5 ss (nx+1)).2 else nx :: ZbH r (Zb5 ss (nx+1)).2)=_
  rw[n2,n1];rfl
 | .ptr false ty ss :: r,x,_,F,t,nx,hro,⟨v,vs', F0,F1,e,⟨g,us,F', e2,e3,h2,g1,g2,g3⟩,h3,h4,h5,h6⟩=>by
  subst e
  subst e2
  obtain⟨zl,k1,k2,k3,k4,k5⟩:=Zbt ss (Zac ss (flats r) x).1 us F' (nx+1) h2
  obtain⟨zl', m1,m2,m3,m4⟩:=ZbY r (Zac ss (flats r) x).2 vs' F1 (t+1) (mkLfs ss (Zac ss (flats r) x).1 (nx+1)).2.2 hro h3
  have hR:=Range.one nx ⟨.pointer (some ⟨g,0,none⟩),fun k=>k=g⟩ (.box ty false (mkLfs ss (Zac ss (flats r) x).1 (nx+1)).1)
  have hB:=Puts.box (T:=nx) (t:=ty) k1 k3 k5 e3 g2 (F0:=F0) (fun k hk=>by cases hk;exact g1) g3 (fun hT=>hR.dis k2 nx (List.mem_singleton.2 rfl) hT)
  have hR2:=hR.append k2
  refine⟨((nx,⟨.pointer (some ⟨g,0,none⟩),fun k=>k=g⟩) :: zl)++zl', Puts.append hB m1 (hR2.dis m2) h4 h5 h6,hR2.append m2,by simp[m3],fun ρ' hρ => ?_⟩
  have hnx:=hρ nx _ (ZeO _ _ _)
  have hzl:∀T z,lk T zl=some z → ρ' T=some z:=fun T z h=>hρ T z (ZeP (by
   have:=(k2.lo T (ZbL h)).1
   simp only[lk,Zby (show T≠nx by omega),cond_false]
   exact h))
  have hl:=k5 ρ' hzl
  obtain⟨b1,b2⟩:=ZcH ss _ (nx+1) us hl
  obtain⟨c1,c2⟩:=m4 ρ' fun T z h=>hρ T z (ZcM (fun hT=>hR2.dis m2 T hT (ZbL h)) h)
  refine⟨Pars.cons (av := .lf (.box nx 0)) ⟨_,g,hnx,rfl,rfl⟩ c1,_,vs', [nx],ZbH r (mkLfs ss (Zac ss (flats r) x).1 (nx+1)).2.2,rfl,?_,⟨nx,_,rfl,hnx,rfl⟩,c2⟩
  show(bif false then ZbH r (Zb5 ss (nx+1)).2 else nx :: ZbH r (Zb5 ss (nx+1)).2)=_
  rw[b2];rfl
end
end Go.Proofs.YthmcpmnhdbeahaaGreat.D
namespace Go.Proofs.YthmcpmnhdbeahaaGreat.D
open Go Go.RowKit
section
variable {P:Program} {B Z:Nat→Prop} {ρ : Rz} {ob:List (Nat×Ob)} {w:World} {β γ : Type} {KK : γ → List Nat→Option β} {r : β}
theorem Zey {T:Nat} {o:Ob} (h:lk T ob=some o):Alive ob [T]:=fun U hU=>by rw[List.mem_singleton.1 hU,h];rfl
theorem ZeN (hm:Mem P B ρ Z (look ob) w):∀(s:LS) (l:Lf) (v:Value) (nd:List Nat) (K:s.den→List Nat→Pg γ),(lfDen s l K).run ob KK nd=some r→LR P B ρ Z w l v →
  ∃x c nd', (K x c).run ob KK nd' = some r∧LSR P B Z w s x v (Of ρ c)∧Alive ob c
 | .v t,l,v,nd,K,h,hl=>by
  obtain⟨x,c,nd1,h,htell,hal⟩:=Zdg hm h hl
  exact⟨x,c,nd1,h,htell,hal⟩
 | .fn asx rt,l,v,nd,K,h,hl=>by cases l <;> cases h
 | .own e m t,l,v,nd,K,h,hl=>by
  cases l <;> first|(cases h;done)|skip
  case nil =>
   have hl:v = .slice none 0 0:=hl
   subst hl
   exact⟨_,[],nd,h,⟨[],World.ownsRow_nil w 0 e t.size,(fun k hk=>by cases hk),fun _ _=>False,(fun j p hp=>by simp at hp),(fun _ _ h=>h.elim),fun _ _ _ _ h=>h.elim⟩,Alive.nil⟩
  case own T =>
   simp only[lfDen,Zbn]at h
   obtain⟨o,ho,h⟩:=h
   cases o with
   | box _ _ _=>cases h
   | hole _ _ _ _ _=>cases h
   | row e' m' t' xs =>
    simp only[ZaH]at h
    obtain⟨hc,h⟩:=h
    rw[Bool.and_eq_true]at hc
    obtain⟨he,hc⟩:=hc
    obtain rfl:=Nat.eq_of_beq_eq_true he
    cases hq:Ty.eq? t' t with
    | none=>rw[hq]at h;cases h
    | some hh =>
     rw[hq]at h
     obtain⟨hh⟩:=hh
     subst hh
     obtain⟨z,hz,rfl,hone⟩:=hl
     obtain⟨z', hz', hr⟩:=hm.obj T _ ho
     obtain rfl:z' = z:=Option.some.inj (hz'.symm.trans hz)
     exact⟨xs,[T],_,h,ZhF hr hz hc,Zey ho⟩
theorem Zds (hm:Mem P B ρ Z (look ob) w) {a b:List Nat} (ha:Alive ob a) (hb:Alive ob b) (hn:nodup (a++b)=true):∀k,Of ρ a k→¬ Of ρ b k:=fun k hk=>Of.sep hm ha hb (nodup_append hn).2.2 hk
theorem Zcu (hm:Mem P B ρ Z (look ob) w):∀(ss:List LS) (ls:List Lf) (vs:List Value) (nd:List Nat) (K:lsd ss→List Nat→Pg γ),(Zgp ss ls K).run ob KK nd=some r→LRs P B ρ Z w ls vs →
  ∃x c nd', (K x c).run ob KK nd' = some r∧(nodup c=true→LSRs P B Z w ss x vs (Of ρ c))∧Alive ob c
 | [],[],vs,nd,K,h,hl=>⟨(),[],nd,h,fun _=>hl,Alive.nil⟩
 | [],_ :: _,vs,nd,K,h,hl=>by cases h
 | s :: ss,[],vs,nd,K,h,hl=>by cases h
 | s :: ss,l :: ls,vs,nd,K,h,⟨v,vs', e,h1,h2⟩=>by
  subst e
  obtain⟨x,c,nd1,h,k1,k2⟩:=ZeN hm s l v nd _ h h1
  obtain⟨y,c', nd2,h,k3,k4⟩:=Zcu hm ss ls vs' nd1 _ h h2
  exact⟨(x,y),c++c', nd2,h,fun hn=>⟨v,vs', _,_,rfl,k1,k3 (nodup_append hn).2.1,fun k hk=>hk.left,fun k hk=>hk.right,Zds hm k2 k4 hn⟩,k2.append k4⟩
theorem Zio (hm:Mem P B ρ Z (look ob) w) {T:Nat} {bt:TypeId} {cells:List Lf} (ho:lk T ob=some (.box bt false cells)) {v:Value} {z0:Rzv} (hz0 : ρ T=some z0) (hv:z0.hdr=v):∃g vs,v = .pointer (some ⟨g,0,none⟩)∧w.heap[g]? = some (.cells vs.toArray bt (0,0))∧LRs P B ρ Z w cells vs∧∀c,Alive ob c→nodup (T :: c)=true→Of ρ (T :: c) g∧¬ Of ρ c g∧∀k,Of ρ c k→Of ρ (T :: c) k:=by
 obtain⟨z,hz,g,vs,h1,h2,h3,h4,h5,h6⟩:=hm.obj T _ ho
 obtain rfl:z=z0:=Option.some.inj (hz.symm.trans hz0)
 refine⟨g,vs,hv ▸ h1,h2,h3,fun c hc hn=>⟨⟨T,z,List.mem_cons_self,hz,h5 rfl⟩,fun hk => ?_,fun k ⟨U,zu,k1,k2⟩=>⟨U,zu,List.mem_cons_of_mem _ k1,k2⟩⟩⟩
 exact Zds hm (Zey ho) hc hn g ⟨T,z,List.mem_singleton.2 rfl,hz,h5 rfl⟩ hk
theorem Zcz (hm:Mem P B ρ Z (look ob) w):∀(outs:List ASh) (avs:List AV) (us:List Value) (nd:List Nat) (K:lsd (flats outs)→List Nat→Pg γ),(Zfq outs avs K).run ob KK nd=some r→AVs P B ρ Z w avs us →
  ∃y c nd', (K y c).run ob KK nd' = some r∧(nodup c=true→ASRs P B Z w outs y us (Of ρ c))∧Alive ob c
 | [],[],us,nd,K,h,hl=>⟨(),[],nd,h,fun _=>hl,Alive.nil⟩
 | [],_ :: _,us,nd,K,h,hl=>by cases h
 | .one s :: outs,avs,us,nd,K,h,hl=>by
  rcases avs with _|⟨av,avs⟩
  ·
   cases h
  ·
   cases av <;> first|(cases h;done)|skip
   rename_i l
   obtain⟨v,vs', rfl,h1,h2⟩:=hl
   obtain⟨x,c,nd1,h,k1,k2⟩:=ZeN hm s l v nd _ h h1
   obtain⟨y,c', nd2,h,k3,k4⟩:=Zcz hm outs avs vs' nd1 _ h h2
   exact⟨_,c++c', nd2,h,fun hn=>⟨v,vs', _,_,rfl,k1,k3 (nodup_append hn).2.1,fun k hk=>hk.left,fun k hk=>hk.right,Zds hm k2 k4 hn⟩,k2.append k4⟩
 | .eat _ _ _ :: outs,avs,us,nd,K,h,hl=>by
  rcases avs with _|⟨av,avs⟩
  ·
   cases h
  ·
   cases av <;> cases h
 | .non :: outs,avs,us,nd,K,h,hl=>by
  rcases avs with _|⟨av,avs⟩
  ·
   cases h
  ·
   cases av <;> cases h
 | .agg ss :: outs,avs,us,nd,K,h,hl=>by
  rcases avs with _|⟨av,avs⟩
  ·
   cases h
  ·
   cases av <;> first|(cases h;done)|skip
   rename_i ls
   obtain⟨v,vs', rfl,⟨us', e,h1⟩,h2⟩:=hl
   obtain⟨x,c,nd1,h,k1,k2⟩:=Zcu hm ss ls us' nd _ h h1
   obtain⟨y,c', nd2,h,k3,k4⟩:=Zcz hm outs avs vs' nd1 _ h h2
   refine⟨_,c++c', nd2,h,fun hn=>⟨v,vs', Of ρ c,Of ρ c', rfl,?_,?_,fun k hk=>hk.left,fun k hk=>hk.right,Zds hm k2 k4 hn⟩,k2.append k4⟩
   ·
    show ASR P B Z w (.agg ss) (Zac ss (flats outs) _).1 v _
    rw[Zbm]
    exact⟨us', e,k1 (nodup_append hn).1⟩
   ·
    show ASRs P B Z w outs (Zac ss (flats outs) _).2 vs' _
    rw[Zbm]
    exact k3 (nodup_append hn).2.1
 | .ptr ro t ss :: outs,avs,us,nd,K,h,hl=>by
  rcases avs with _|⟨av,avs⟩
  ·
   cases ro <;> cases h
  ·
   cases ro with
   | true=>cases av <;> cases h
   | false =>
    cases av <;> first|(cases h;done)|skip
    rename_i l
    cases l <;> first|(cases h;done)|skip
    rename_i T off
    cases off with
    | succ _=>cases h
    | zero =>
     obtain⟨v,vs', rfl,⟨z0,g0,hz0,hg0,hv⟩,h2⟩:=hl
     simp only[Zfq,Zbn]at h
     obtain⟨o,ho,h⟩:=h
     cases o with
     | row _ _ _ _=>cases h
     | hole _ _ _ _ _=>cases h
     | box bt ro cells =>
      cases ro with
      | true=>cases h
      | false =>
       simp only[ZaH]at h
       obtain⟨hb,h⟩:=h
       obtain rfl:=Nat.eq_of_beq_eq_true hb
       obtain⟨g,cs,e1,e2,e3,e4⟩:=Zio hm ho hz0 (v:=v) (hg0.trans hv.symm)
       obtain⟨x,c,nd1,h,k1,k2⟩:=Zcu hm ss cells cs _ _ h e3
       obtain⟨y,c', nd2,h,k3,k4⟩:=Zcz hm outs avs vs' nd1 _ h h2
       have hal:Alive ob (T :: c):=fun U hU=>(List.mem_cons.1 hU).elim (fun e=>by rw[e,ho];rfl) (k2 U)
       refine⟨_,T :: c++c', nd2,h,fun hn=>⟨v,vs', Of ρ (T :: c),Of ρ c', rfl,?_,?_,fun k hk=>hk.left,fun k hk=>hk.right,Zds hm hal k4 hn⟩,hal.append k4⟩
       ·
        show ASR P B Z w (.ptr false _ ss) (Zac ss (flats outs) _).1 v _
        rw[Zbm]
        have hn1:=(nodup_append hn).1
        exact⟨g,cs,Of ρ c,e1,e2,k1 (by simp only[nodup,Bool.and_eq_true]at hn1;exact hn1.2),e4 c k2 hn1⟩
       ·
        show ASRs P B Z w outs (Zac ss (flats outs) _).2 vs' _
        rw[Zbm]
        exact k3 (nodup_append hn).2.1
theorem ZdF (hm:Mem P B ρ Z (look ob) w):∀(s:LS) (v:Value) (ts Ts:List Nat) (nd:List Nat) (K:lsd s.back→List Nat→List Nat→Pg γ),(ZfA s (ts++Ts) K).run ob KK nd=some r→Zex ρ s v ts →
  ∃x c nd', (K x Ts c).run ob KK nd' = some r∧IoLS Z w s v x (Of ρ c)∧Alive ob c
 | .v t,v,ts,Ts,nd,K,h,hb=>by
  cases hb
  exact⟨(),[],nd,h,trivial,Alive.nil⟩
 | .fn asx rt,v,ts,Ts,nd,K,h,hb=>by
  cases hb
  exact⟨(),[],nd,h,trivial,Alive.nil⟩
 | .own e m t,v,ts,Ts,nd,K,h,hb=>by
  obtain⟨T,z,rfl,hz,hv⟩:=hb
  simp only[List.singleton_append,ZfA,Zbn]at h
  obtain⟨o,ho,h⟩:=h
  cases o with
  | box _ _ _=>cases h
  | hole _ _ _ _ _=>cases h
  | row e' m' t' xs =>
   simp only[ZaH]at h
   obtain⟨hc,h⟩:=h
   rw[Bool.and_eq_true]at hc
   obtain⟨he,hc⟩:=hc
   obtain rfl:=Nat.eq_of_beq_eq_true he
   cases hq:Ty.eq? t' t with
   | none=>rw[hq]at h;cases h
   | some hh =>
    rw[hq]at h
    obtain⟨hh⟩:=hh
    subst hh
    obtain⟨z', hz', hr⟩:=hm.obj T _ ho
    obtain rfl:z' = z:=Option.some.inj (hz'.symm.trans hz)
    subst hv
    exact⟨(xs,()),[T],_,h,ZhF hr hz hc,Zey ho⟩
theorem Zdm (hm:Mem P B ρ Z (look ob) w):∀(ss:List LS) (vs:List Value) (ts Ts:List Nat) (nd:List Nat) (K:lsd (backs ss)→List Nat→List Nat→Pg γ),(ZfB ss (ts++Ts) K).run ob KK nd=some r→Zcj ρ ss vs ts →
  ∃x c nd', (K x Ts c).run ob KK nd' = some r∧(nodup c=true→IoLSs Z w ss vs x (Of ρ c))∧Alive ob c
 | [],vs,ts,Ts,nd,K,h,hb=>by
  cases hb
  exact⟨(),[],nd,h,fun _=>trivial,Alive.nil⟩
 | s :: ss,vs,ts,Ts,nd,K,h,⟨v,vs', t1,t2,e1,e2,b1,b2⟩=>by
  subst e1
  subst e2
  rw[List.append_assoc]at h
  obtain⟨x,c,nd1,h,k1,k2⟩:=ZdF hm s v t1 (t2++Ts) nd _ h b1
  obtain⟨y,c', nd2,h,k3,k4⟩:=Zdm hm ss vs' t2 Ts nd1 _ h b2
  refine⟨_,c++c', nd2,h,fun hn=>⟨v,vs', Of ρ c,Of ρ c', rfl,?_,?_,fun k hk=>hk.left,fun k hk=>hk.right,Zds hm k2 k4 hn⟩,k2.append k4⟩
  ·
   rw[Zbm];exact k1
  ·
   rw[Zbm];exact k3 (nodup_append hn).2.1
theorem ZbW (hm:Mem P B ρ Z (look ob) w):∀(ins:List ASh) (vs:List Value) (Ts:List Nat) (nd:List Nat) (K:lsd (ios ins)→List Nat→Pg γ),(ioDen ins Ts K).run ob KK nd=some r→ZcT ρ ins vs Ts →
  ∃x c nd', (K x c).run ob KK nd' = some r∧(nodup c=true→IoRs P B Z w ins vs x (Of ρ c))∧Alive ob c
 | [],vs,Ts,nd,K,h,hb=>by
  cases hb
  exact⟨(),[],nd,h,fun _=>trivial,Alive.nil⟩
 | .one s :: ins,vs,Ts,nd,K,h,⟨v,vs', t1,t2,e1,e2,b1,b2⟩=>by
  subst e1
  subst e2
  obtain⟨x,c,nd1,h,k1,k2⟩:=ZdF hm s v t1 t2 nd _ h b1
  obtain⟨y,c', nd2,h,k3,k4⟩:=ZbW hm ins vs' t2 nd1 _ h b2
  refine⟨_,c++c', nd2,h,fun hn=>⟨v,vs', Of ρ c,Of ρ c', rfl,?_,?_,fun k hk=>hk.left,fun k hk=>hk.right,Zds hm k2 k4 hn⟩,k2.append k4⟩
  ·
   show IoR P B Z w (.one s) v (Zac s.back (ios ins) _).1 _
   rw[Zbm];exact k1
  ·
   show IoRs P B Z w ins vs' (Zac s.back (ios ins) _).2 _
   rw[Zbm];exact k3 (nodup_append hn).2.1
 | .agg ss :: ins,vs,Ts,nd,K,h,⟨v,vs', t1,t2,e1,e2,⟨us,e3,b1⟩,b2⟩=>by
  subst e1
  subst e2
  obtain⟨x,c,nd1,h,k1,k2⟩:=Zdm hm ss us t1 t2 nd _ h b1
  obtain⟨y,c', nd2,h,k3,k4⟩:=ZbW hm ins vs' t2 nd1 _ h b2
  refine⟨_,c++c', nd2,h,fun hn=>⟨v,vs', Of ρ c,Of ρ c', rfl,?_,?_,fun k hk=>hk.left,fun k hk=>hk.right,Zds hm k2 k4 hn⟩,k2.append k4⟩
  ·
   show IoR P B Z w (.agg ss) v (Zac (backs ss) (ios ins) _).1 _
   rw[Zbm];exact⟨us,e3,k1 (nodup_append hn).1⟩
  ·
   show IoRs P B Z w ins vs' (Zac (backs ss) (ios ins) _).2 _
   rw[Zbm];exact k3 (nodup_append hn).2.1
 | .ptr true t ss :: ins,vs,Ts,nd,K,h,⟨v,vs', t1,t2,e1,e2,b1,b2⟩=>by
  subst e1
  subst e2
  cases b1
  obtain⟨y,c', nd2,h,k3,k4⟩:=ZbW hm ins vs' t2 nd _ h b2
  exact⟨y,c', nd2,h,fun hn=>⟨v,vs', fun _=>False,Of ρ c', rfl,trivial,k3 hn,fun k hk=>hk.elim,fun k hk=>hk,fun k hk=>hk.elim⟩,k4⟩
 | .non :: ins,vs,Ts,nd,K,h,⟨v,vs', t1,t2,e1,e2,b1,b2⟩=>by
  subst e1
  subst e2
  cases b1
  obtain⟨y,c', nd2,h,k3,k4⟩:=ZbW hm ins vs' t2 nd _ h b2
  exact⟨y,c', nd2,h,fun hn=>⟨v,vs', fun _=>False,Of ρ c', rfl,trivial,k3 hn,fun k hk=>hk.elim,fun k hk=>hk,fun k hk=>hk.elim⟩,k4⟩
 | .eat _ _ _ :: ins,vs,Ts,nd,K,h,⟨v,vs', t1,t2,e1,e2,b1,b2⟩=>by
  subst e1
  subst e2
  cases b1
  obtain⟨y,c', nd2,h,k3,k4⟩:=ZbW hm ins vs' t2 nd _ h b2
  exact⟨y,c', nd2,h,fun hn=>⟨v,vs', fun _=>False,Of ρ c', rfl,trivial,k3 hn,fun k hk=>hk.elim,fun k hk=>hk,fun k hk=>hk.elim⟩,k4⟩
 | .ptr false t ss :: ins,vs,Ts,nd,K,h,⟨v,vs', t1,t2,e1,e2,⟨T,z0,e3,hz0,hv⟩,b2⟩=>by
  subst e1
  subst e2
  subst e3
  simp only[List.singleton_append,ioDen,Zbn]at h
  obtain⟨o,ho,h⟩:=h
  cases o with
  | row _ _ _ _=>cases h
  | hole _ _ _ _ _=>cases h
  | box bt ro cells =>
   cases ro with
   | true=>cases h
   | false =>
    simp only[ZaH]at h
    obtain⟨hb,h⟩:=h
    obtain rfl:=Nat.eq_of_beq_eq_true hb
    obtain⟨g,cs,e1,e2,e3,e4⟩:=Zio hm ho hz0 hv
    obtain⟨x,c,nd1,h,k1,k2⟩:=Zcu hm ss cells cs _ _ h e3
    obtain⟨y,c', nd2,h,k3,k4⟩:=ZbW hm ins vs' t2 nd1 _ h b2
    have hal:Alive ob (T :: c):=fun U hU=>(List.mem_cons.1 hU).elim (fun e=>by rw[e,ho];rfl) (k2 U)
    refine⟨_,T :: c++c', nd2,h,fun hn=>⟨v,vs', Of ρ (T :: c),Of ρ c', rfl,?_,?_,fun k hk=>hk.left,fun k hk=>hk.right,Zds hm hal k4 hn⟩,hal.append k4⟩
    ·
     show IoR P B Z w (.ptr false _ ss) v (Zac ss (ios ins) _).1 _
     rw[Zbm]
     have hn1:=(nodup_append hn).1
     exact⟨g,cs,Of ρ c,e1,e2,k1 (by simp only[nodup,Bool.and_eq_true]at hn1;exact hn1.2),e4 c k2 hn1⟩
    ·
     show IoRs P B Z w ins vs' (Zac ss (ios ins) _).2 _
     rw[Zbm]
     exact k3 (nodup_append hn).2.1
theorem Zcj.mono {ρ' : Rz}:∀{ss:List LS} {vs:List Value} {Ts:List Nat},(∀T∈Ts,∀z,ρ T=some z→∃z', ρ' T=some z' ∧ z'.hdr=z.hdr)→Zcj ρ ss vs Ts→Zcj ρ' ss vs Ts
 | [],_,_,_,h=>h
 | s :: ss,_,_,hh,⟨v,vs', t1,t2,e1,e2,b1,b2⟩=>⟨v,vs', t1,t2,e1,e2,backLS_mono (fun T hT=>hh T (e2 ▸ List.mem_append_left _ hT)) b1,Zcj.mono (fun T hT=>hh T (e2 ▸ List.mem_append_right _ hT)) b2⟩
where
 backLS_mono {ρ' : Rz} {s:LS} {v:Value} {Ts:List Nat} (hh:∀T∈Ts,∀z,ρ T=some z→∃z', ρ' T=some z' ∧ z'.hdr=z.hdr) (h:Zex ρ s v Ts):Zex ρ' s v Ts:=by
  cases s with
  | v t=>exact h
  | fn asx rt=>exact h
  | own e m t =>
   obtain⟨T,z,rfl,h1,h2⟩:=h
   obtain⟨z', h3,h4⟩:=hh T (List.mem_singleton.2 rfl) z h1
   exact⟨T,z', rfl,h3,h4.trans h2⟩
theorem ZcT.mono {ρ' : Rz}:∀{ins:List ASh} {vs:List Value} {Ts:List Nat},(∀T∈Ts,∀z,ρ T=some z→∃z', ρ' T=some z' ∧ z'.hdr=z.hdr)→ZcT ρ ins vs Ts→ZcT ρ' ins vs Ts
 | [],_,_,_,h=>h
 | a :: ins,_,_,hh,⟨v,vs', t1,t2,e1,e2,b1,b2⟩=>by
  have h1:∀T∈t1,∀z,ρ T=some z→∃z', ρ' T=some z' ∧ z'.hdr=z.hdr:=fun T hT=>hh T (e2 ▸ List.mem_append_left _ hT)
  refine⟨v,vs', t1,t2,e1,e2,?_,ZcT.mono (fun T hT=>hh T (e2 ▸ List.mem_append_right _ hT)) b2⟩
  cases a with
  | eat _ _ _=>exact b1
  | non=>exact b1
  | one s=>exact Zcj.mono.backLS_mono h1 b1
  | agg ss =>
   obtain⟨us,k1,k2⟩:=b1
   exact⟨us,k1,k2.mono h1⟩
  | ptr ro t ss =>
   cases ro with
   | true=>exact b1
   | false =>
    obtain⟨T,z,rfl,k1,k2⟩:=b1
    obtain⟨z', k3,k4⟩:=h1 T (List.mem_singleton.2 rfl) z k1
    exact⟨T,z', rfl,k3,k4.trans k2⟩
inductive Each {α δ : Type} (R : α → δ → Prop):List α → List δ → Prop where
 | nil:Each R [] []
 | cons {a : α} {b : δ} {l:List α} {m:List δ}:R a b→Each R l m→Each R (a :: l) (b :: m)
def Zen (tmps:Array Value):ResultVar→Sem Value
 | .tmp t=>pure (tmps.getD t undef)
 | .cell a t=>do loadVar t (←asAddr (tmps.getD a undef))
theorem Zh7 (fn:Func) (tmps:Array Value):results fn tmps=(do
  let vs ←fn.results.mapM (Zen tmps)
  pure (if h:vs.size=1 then vs[0]else .tuple vs)):=rfl
theorem ZhB {tmps:Array Value}:∀(l:List ResultVar) (us:List Value),Each (fun x u=>(Zen tmps x).run P w = .ok u w) l us→(l.mapM (Zen tmps)).run P w = .ok us w
 | [],_,.nil=>by simp
 | x :: l,_,.cons (b:=u) h hs=>by
  rw[List.mapM_cons]
  simp[h,ZhB l _ hs]
theorem Zhe {fn:Func} {tmps:Array Value} {us:List Value} (h:Each (fun x u=>(Zen tmps x).run P w = .ok u w) fn.results.toList us):(results fn tmps).run P w = .ok (outV us) w:=by
 rw[Zh7,Array.mapM_eq_mapM_toList]
 simp only[Sem.run_bind,Sem.run_map,ZhB _ _ h,Result.andThen]
 rcases us with _|⟨u,_|⟨u', us⟩⟩
 ·
  simp[outV]
 ·
  simp[outV]
 ·
  simp[outV]
theorem ZcP (hm:Mem P B ρ Z (look ob) w) {E:Env} (hE:TtOk P E.tt) {fr:List (Nat×AV)} {a:Act} (hfr:∀t av,lk t fr=some av→AR P B ρ Z w av (a.eval (.tmp t))):∀(res:List ResultVar) (nd:List Nat) (K:List AV→Pg γ),(resPg E fr res K).run ob KK nd=some r →
  ∃avs us nd', (K avs).run ob KK nd' = some r∧AVs P B ρ Z w avs us∧Each (fun x u=>(Zen a.tmps x).run P w = .ok u w) res us
 | [],nd,K,h=>⟨[],[],nd,h,rfl,.nil⟩
 | .tmp t :: res,nd,K,h=>by
  unfold resPg at h
  split at h
  ·
   rename_i v hv
   obtain⟨avs,us,nd', h1,h2,h3⟩:=ZcP hm hE hfr res nd _ h
   exact⟨v :: avs,_ :: us,nd', h1,⟨_,us,rfl,hfr t v hv,h2⟩,.cons (by simp[Zen,Act.eval]) h3⟩
  ·
   cases h
 | .cell b t :: res,nd,K,h=>by
  unfold resPg at h
  split at h
  ·
   rename_i T off i hb hi
   rw[Zbn]at h
   obtain⟨o,ho,h⟩:=h
   cases o with
   | row _ _ _ _=>cases h
   | hole _ _ _ _ _=>cases h
   | box bt ro cells =>
    obtain⟨z,hz,g,vs,h1,h2,h3,h4,h5,h6⟩:=hm.obj T _ ho
    have hev:a.eval (.tmp b) = .pointer (some ⟨g,off,none⟩):=by
     obtain⟨z', g', k1,k2,k3⟩:=hfr b _ hb
     obtain rfl:z' = z:=Option.some.inj (k1.symm.trans hz)
     rw[h1]at k2
     cases k2
     exact k3
    have hev:a.tmps.getD b undef = .pointer (some ⟨g,off,none⟩):=hev
    have hcell:∀(j:Nat) u,((vs.drop off).take i.size)[j]? = some u→w.cell? ((⟨g,off,none⟩:Addr).add j)=some u:=fun j u hu=>by
     rw[Zbv,cell_of_row w g (off+j) vs.toArray bt (0,0) h2]
     simpa using ZdV hu
    have hl:=(h3.drop off).take i.size
    have ht:=hE t i hi
    simp only at h
    split at h
    ·
     rename_i fs hk
     rw[ZaH]at h
     obtain⟨hn,h⟩:=h
     have hn:=Nat.eq_of_beq_eq_true hn
     have hsz:((vs.drop off).take i.size).length=i.size:=by rw[hl.len,hn]
     have hr:=run_loadCells_list (P:=P) w ⟨g,off,none⟩ _ hcell
     rw[hsz]at hr
     obtain⟨avs,us,nd', g1,g2,g3⟩:=ZcP hm hE hfr res _ _ h
     refine⟨_ :: avs,.agg ((vs.drop off).take i.size).toArray :: us,nd', g1,⟨_,us,rfl,⟨_,rfl,hl⟩,g2⟩,.cons ?_ g3⟩
     simp[Zen,hev,asAddr,loadVar,Zde ht w hk,ZbT ht,hr]
    ·
     rename_i hk
     split at h
     ·
      rename_i l hls
      rw[hls]at hl
      obtain⟨v,hv,hv'⟩:=hl.one_inv
      have hc0:=hcell 0 v (by rw[hv];rfl)
      rw[add_zero]at hc0
      obtain⟨avs,us,nd', g1,g2,g3⟩:=ZcP hm hE hfr res _ _ h
      refine⟨_ :: avs,v :: us,nd', g1,⟨_,us,rfl,hv', g2⟩,.cons ?_ g3⟩
      simp[Zen,hev,asAddr,loadVar,Zcc ht w (fun fs hf=>hk fs hf),hc0]
     ·
      cases h
  ·
   cases h
end
end Go.Proofs.YthmcpmnhdbeahaaGreat.D
namespace Go.Proofs.YthmcpmnhdbeahaaGreat.D
open Go Go.RowKit
structure FnOk (P:Program) (E:Env) (g:FuncId) (fn:Func) (f:Fn):Prop where
 func:P.funcs[g]? = some fn
 body:fn.body=some f.body
 name : (fn.name == "runtime.NumGoroutine") = false
 res:fn.results.toList=f.res
 n:fn.ntmps=E.n
 len:f.ins.length≤E.n
 ro:roOk f.ins=true
 pin:(ZbH f.ins 0).all (fun T=>Nat.blt T E.pin)=true
section
variable {P:Program} {E:Env}
theorem ZjG {B Z S:Nat→Prop} {w:World} {f:Fn} {x:lsd (flats f.ins)} {vs:List Value} (hro:roOk f.ins=true) (hlen:f.ins.length≤E.n) (h:ASRs P B Z w f.ins x vs S) (hS:∀k,S k→¬ Z k∧¬ B k∧k < w.heap.size) (hZ:∀k,Z k→k < w.heap.size) (hB:∀k,B k→k < w.heap.size) :
  ∃ρ0:Rz,(∀k,Own ρ0 (look (entry f.ins x).ob) k→S k)∧ZcT ρ0 f.ins vs (ZbH f.ins 0)∧At P B E.n E.pin ρ0 Z (look (entry f.ins x).ob) w (entry f.ins x) { tmps:=vs.toArray++Array.replicate (E.n - vs.toArray.size) undef,defers:=[] } w:=by
 obtain⟨zl,k1,k2,k3,k4⟩:=ZbY f.ins x vs S 0 0 hro h
 have e:entry f.ins x=⟨(mkIns f.ins x 0 0).1,(mkIns f.ins x 0 0).2.1,(mkIns f.ins x 0 0).2.2⟩:=rfl
 rw[e]
 obtain⟨c1,c2⟩:=k4 (fun T=>lk T zl) fun _ _ h=>h
 have hown:∀k,Own (fun T=>lk T zl) (look (mkIns f.ins x 0 0).2.1) k→S k:=fun k ⟨T,z,_,h2,h3⟩=>k1.sub T z h2 k h3
 have hvs:vs.length≤E.n:=by rw[k3];exact hlen
 refine⟨fun T=>lk T zl,hown,c2,⟨fun T=>lk T zl,Z,_,rfl,⟨fun T o ho => ?_,fun T T' z z' k hne _ _ h1 h2=>k1.dis T T' z z' k hne h1 h2,fun k hk=>⟨(hS k (hown k hk)).1,(hS k (hown k hk)).2.2⟩,hZ,fun k hk=>(hS k (hown k hk)).2.1,hB⟩,Bas.refl,fun t av hav => ?_,?_,rfl,fun T (hT:(mkIns f.ins x 0 0).2.2≤T)=>Zco fun hk => ?_⟩⟩
 ·
  have hk:T∈keys zl:=k1.key ▸ ZbL ho
  rw[Zbu]at hk
  cases hz:lk T zl with
  | none=>rw[hz]at hk;cases hk
  | some z=>exact⟨z,rfl,k1.ors _ (fun _ _ h=>h) T o z ho hz⟩
 ·
  obtain⟨i,v,h1,h2,h3⟩:=c1 t av hav
  rw[Nat.zero_add]at h1
  subst h1
  have hi:=(List.getElem?_eq_some_iff.1 h2).1
  have:({ tmps:=vs.toArray++Array.replicate (E.n - vs.toArray.size) undef,defers:=[] }:Act).eval (.tmp t)=v:=by
   simp only[Act.eval,Array.getD_eq_getD_getElem?]
   rw[Array.getElem?_append_left (by simpa using hi)]
   simp[h2]
  rw[this]
  exact h3
 ·
  simp
  omega
 ·
  have:=(k2.lo T hk).2
  omega
theorem Zgk {B Z S:Nat→Prop} {w w' : World} {f:Fn} {vs:List Value} {ρ0:Rz} {ob0:Obs} {σ : St} {a:Act} {yz:lsd (flats f.outs)×lsd (ios f.ins)} {fn:Func} (hE:EnvOk P E) (hres:fn.results.toList=f.res) (hpin:(ZbH f.ins 0).all (fun T=>Nat.blt T E.pin)=true)
  (hS:∀k,Own ρ0 ob0 k→S k) (hb:ZcT ρ0 f.ins vs (ZbH f.ins 0)) (h:At P B E.n E.pin ρ0 Z ob0 w σ a w') (hc:collect E f σ = some yz) :
  a.defers=[]∧∃u,(results fn a.tmps).run P w' = .ok u w' ∧ ∃Z' Fi Fo,PostR P B Z S w f.ins f.outs vs yz.1 yz.2 u w' Z' Fi Fo:=by
 obtain⟨ρ,Z', L,h1,hm,hbas,hfr,h5,h6,h7⟩:=h
 refine⟨h6,?_⟩
 unfold collect at hc
 obtain⟨avs,us,nd1,hc,k1,k2⟩:=ZcP hm hE.tt (a:=a) hfr _ _ _ hc
 obtain⟨y,c,nd2,hc,k3,k4⟩:=Zcz hm _ _ us _ _ hc k1
 have hb' : ZcT ρ f.ins vs (ZbH f.ins 0):=hb.mono fun T hT z hz=>hbas.hdr T z (by
  rw[List.all_eq_true]at hpin
  simpa using hpin T hT) hz
 obtain⟨z,c', nd3,hc,k5,k6⟩:=ZbW hm _ vs _ _ _ hc hb'
 rw[ZaH]at hc
 obtain⟨hn,hc⟩:=hc
 have hc:some (y,z)=some yz:=hc
 cases hc
 obtain⟨n1,n2,n3⟩:=nodup_append hn
 rw[←hres]at k2
 refine⟨outV us,Zhe k2,Z', Of ρ c', Of ρ c,k5 n2,⟨us,rfl,k3 n1⟩,fun k hk hk' => Zds hm k4 k6 hn k hk' hk,fun k hk => ?_,hbas.zm,fun k hk=>⟨?_,hm.zlt k hk⟩,hbas.os,hbas.tape,hbas.output,hbas.size,fun k hk hs=>hbas.old k hk fun ho=>hs (hS k ho)⟩
 ·
  have ho:Own ρ (look σ.ob) k:=hk.elim (fun h=>h.own k6) fun h=>h.own k4
  exact⟨(hbas.own k ho).imp (hS k) id,(hm.zsep k ho).2,(hm.zsep k ho).1⟩
 ·
  rcases hbas.zn k hk with h|h|h
  ·
   exact .inl h
  ·
   exact .inr (.inl (hS k h))
  ·
   exact .inr (.inr h)
theorem ZfH (hE:EnvOk P E) (hm:P.follows .mixedOrders=true) {g:FuncId} {fn:Func} {f:Fn} (h:FnOk P E g fn f) {R:Type} {enc:lsd (flats f.outs)×lsd (ios f.ins)→R} {dec:R→lsd (flats f.outs)×lsd (ios f.ins)} (hde:∀y,dec (enc y)=y):Valid P g ⟨f.ins,f.outs,R,denF E f enc,dec⟩:=by
 refine⟨⟨fn,h.func,h.name,by rw[h.body];rfl⟩,fun x r hx Z B S w vs hargs hS hZ hB => ?_⟩
 obtain⟨ρ0,e1,e2,e3⟩:=ZjG (E:=E) (f:=f) h.ro h.len hargs hS hZ hB
 refine calls_of_wp h.func h.body ?_
 rw[h.n]
 have out:∀{yz},(collect E f yz).map enc=some r→∃y,collect E f yz=some y∧dec r=y:=fun {σ} h=>by
  cases hc:collect E f σ with
  | none=>rw[hc]at h;cases h
  | some y =>
   rw[hc]at h
   cases h
   exact⟨y,rfl,hde y⟩
 refine ZhR hE hm f.body (retG f enc E) r (entry f.ins x) _ w _ hx e3 fun ex σ' a' w' hk hat => ?_
 cases ex with
 | normal =>
  obtain⟨y,hy,e⟩:=out hk
  obtain⟨d,u,hr,hp⟩:=Zgk (fn:=fn) hE h.res h.pin e1 e2 hat hy
  exact⟨d,u,hr,u,rfl,by show ∃Z' Fi Fo,PostR P B Z S w f.ins f.outs vs (dec r).1 (dec r).2 u w' Z' Fi Fo;rw[e];exact hp⟩
 | exit i=>cases hk
 | ret =>
  obtain⟨y,hy,e⟩:=out hk
  obtain⟨d,u,hr,hp⟩:=Zgk (fn:=fn) hE h.res h.pin e1 e2 hat hy
  exact⟨d,u,hr,u,rfl,by show ∃Z' Fi Fo,PostR P B Z S w f.ins f.outs vs (dec r).1 (dec r).2 u w' Z' Fi Fo;rw[e];exact hp⟩
end
end Go.Proofs.YthmcpmnhdbeahaaGreat.D
namespace Go.Proofs.YthmcpmnhdbeahaaGreat.D
open Go Go.RowKit
theorem run_bind {γ β δ : Type} (ob:List (Nat×Ob)) (K : γ → List Nat→Option β) (G : β → Option δ):∀(pg:Pg γ) (nd:List Nat),pg.run ob (fun g n=>(K g n).bind G) nd=(pg.run ob K nd).bind G:=by
 intro pg
 induction pg with
 | fail=>intro nd;rfl
 | ret g=>intro nd;rfl
 | obj T f ih =>
  intro nd
  unfold Pg.run
  cases lk T ob with
  | none=>rfl
  | some o=>exact ih o _
 | test p d x y ihx ihy =>
  intro nd
  unfold Pg.run
  by_cases hp:p
  ·
   rw[if_pos hp,if_pos hp];exact ihx nd
  ·
   rw[if_neg hp,if_neg hp];exact ihy nd
 | call v f ih =>
  intro nd
  unfold Pg.run
  cases v with
  | none=>rfl
  | some a=>exact ih a nd
theorem ZiI {β δ : Type} (E:Env) (σ : St) (dec:List (Nat×Bool)) (o:Oper) (k:St→Trc→Option β) (G : β → Option δ):goOp E σ dec o (fun s t=>(k s t).bind G)=(goOp E σ dec o k).bind G:=by
 unfold goOp
 rw[←run_bind]
 congr 1
 funext e nd
 split
 ·
  cases newOk σ e _ e.add.length && dstOk E o.dst <;> rfl
 ·
  rfl
theorem Zji {β δ : Type} (E:Env) (o:Oper) (x:Option β) (G : β → Option δ):skOp E o (x.bind G)=(skOp E o x).bind G:=by
 unfold skOp
 cases dstOk E o.dst <;> rfl
theorem Zdy {β δ : Type} (E:Env) (all:List Oper) (K:St→List Trc→Option β) (G : β → Option δ):∀(ops:List Oper) (σ : St) (dec:List (Nat×Bool)) (tr:List Trc),ZbO E all (fun s t=>(K s t).bind G) ops σ dec tr=(ZbO E all K ops σ dec tr).bind G
 | [],σ,dec,tr=>rfl
 | o :: r,σ,dec,tr=>by
  have go:∀dec,goOp E σ dec o (fun s t=>ZbO E all (fun s t=>(K s t).bind G) r s (rmD o.dst dec) (t :: tr))=(goOp E σ dec o (fun s t=>ZbO E all K r s (rmD o.dst dec) (t :: tr))).bind G:=fun dec=>by
   rw[←ZiI]
   congr 1
   funext s t
   exact Zdy E all K G r s _ _
  have sk:∀dec,skOp E o (ZbO E all (fun s t=>(K s t).bind G) r (σ.skip o.dst) (rmD o.dst dec) (([],[]) :: tr))=(skOp E o (ZbO E all K r (σ.skip o.dst) (rmD o.dst dec) (([],[]) :: tr))).bind G:=fun dec=>by
   rw[←Zji,Zdy E all K G r]
  unfold ZbO
  split
  ·
   exact go dec
  ·
   split
   ·
    rfl
   ·
    split
    ·
     rename_i b _
     cases b == _
     ·
      exact sk dec
     ·
      exact go dec
    ·
     split
     ·
      rename_i n p d _
      by_cases hp:p
      ·
       rw[if_pos hp,if_pos hp]
       generalize (!n == _)=bb
       cases bb
       ·
        exact sk _
       ·
        exact go _
      ·
       rw[if_neg hp,if_neg hp]
       generalize (n == _)=bb
       cases bb
       ·
        exact sk _
       ·
        exact go _
     ·
      exact sk dec
     ·
      rfl
theorem Zjh {β δ : Type} (k:St→Option β) (K:Ex→St→Option β) (G : β → Option δ):(fun e s=>(seqK k K e s).bind G)=seqK (fun s=>(k s).bind G) (fun e s=>(K e s).bind G):=by
 funext e s
 cases e <;> rfl
theorem Zim {β δ : Type} (id:Nat) (K:Ex→St→Option β) (G : β → Option δ):(fun e s=>(blkK id K e s).bind G)=blkK id (fun e s=>(K e s).bind G):=by
 funext e s
 cases e with
 | exit i =>
  show(bif Nat.beq i id then K .normal s else K (.exit i) s).bind G=bif Nat.beq i id then(K .normal s).bind G else(K (.exit i) s).bind G
  cases Nat.beq i id <;> rfl
 | _=>rfl
theorem Ziz (E:Env):∀(c:Code) {β δ : Type} (σ : St) (K:Ex→St→Option β) (G : β → Option δ),denC E c σ (fun e s=>(K e s).bind G)=(denC E c σ K).bind G:=by
 intro c
 induction c with
 | skip=>intro β δ σ K G;simp only[denC]
 | region id ops draw =>
  intro β δ σ K G
  simp only[denC]
  rw[←Zdy]
  congr 1
  funext s tr
  cases draw
  ·
   rfl
  ·
   cases h:bern ops tr <;> simp
 | seq x y ihx ihy =>
  intro β δ σ K G
  simp only[denC]
  rw[←ihx,Zjh]
  congr 2
  funext s
  exact ihy s K G
 | cond c x y ihx ihy =>
  intro β δ σ K G
  simp only[denC]
  split
  ·
   rename_i n p d _
   by_cases hp:p
   ·
    rw[if_pos hp,if_pos hp]
    cases n
    ·
     exact ihx σ K G
    ·
     exact ihy σ K G
   ·
    rw[if_neg hp,if_neg hp]
    cases n
    ·
     exact ihy σ K G
    ·
     exact ihx σ K G
  ·
   rfl
 | block id c ih =>
  intro β δ σ K G
  simp only[denC]
  rw[←ih,Zim]
 | loop c ih =>
  intro β δ σ K G
  simp only[denC]
  cases loopR (fun s=>denC E c s (backK E (rid c))) (nrm E (rid c) σ) <;> rfl
 | exit id=>intro β δ σ K G;simp only[denC]
 | ret=>intro β δ σ K G;simp only[denC]
 | _=>intro β δ σ K G;simp[denC]
theorem Zgg (E:Env) (c:Code) {β : Type} (σ : St) (K:Ex→St→Option β):denC E c σ K=(denC E c σ fun e s=>some (e,s)).bind fun p=>K p.1 p.2:=by
 rw[←Ziz]
 rfl
section
variable {f:St→Option (Ex×St)}
theorem ZeM:∀{n m:Nat} {σ : St} {p:Ex×St},iter f n σ = some p→n≤m→iter f m σ = some p
 | 0,_,_,_,h,_=>by cases h
 | n+1,0,_,_,_,h=>absurd h (Nat.not_succ_le_zero n)
 | n+1,m+1,σ,p,h,hm=>by
  unfold iter at h ⊢
  split
  ·
   rename_i s hs
   rw[hs]at h
   exact ZeM h (Nat.le_of_succ_le_succ hm)
  ·
   rename_i r hr
   split at h
   ·
    rename_i s hs
    exact absurd hs (fun hs=>hr s hs)
   ·
    exact h
theorem Zd2 {n:Nat} {σ : St} {p:Ex×St} (h:iter f n σ = some p):loopR f σ = some p:=by
 have hx:∃n,(iter f n σ).isSome=true:=⟨n,by rw[h];rfl⟩
 unfold loopR
 rw[dif_pos hx]
 have hc:=Classical.choose_spec hx
 generalize Classical.choose hx=m at hc ⊢
 cases hm:iter f m σ with
 | none=>rw[hm]at hc;cases hc
 | some q =>
  have h1:=ZeM h (Nat.le_max_left n m)
  have h2:=ZeM hm (Nat.le_max_right n m)
  rw[h1]at h2
  exact h2.symm
theorem Zfl {σ : St} {p:Ex×St} (h:loopR f σ = some p):∃n,iter f n σ = some p:=by
 unfold loopR at h
 split at h
 ·
  exact⟨_,h⟩
 ·
  cases h
def back (f:St→Option (Ex×St)) (g:St→Option (Ex×St)):Option (Ex×St)→Option (Ex×St)
 | some (.normal,s)=>g s
 | r=>r
theorem ZhU (σ : St):loopR f σ = back f (loopR f) (f σ):=by
 cases hl:back f (loopR f) (f σ)with
 | none =>
  cases hr:loopR f σ with
  | none=>rfl
  | some p =>
   obtain⟨n,hn⟩:=Zfl hr
   exfalso
   cases n with
   | zero=>cases hn
   | succ n =>
    unfold iter at hn
    unfold back at hl
    split at hn
    ·
     rename_i s hs
     rw[hs]at hl
     have:=Zd2 hn
     simp only at hl
     rw[this]at hl;cases hl
    ·
     rename_i r hr'
     split at hl
     ·
      rename_i s hs;exact hr' s hs
     ·
      rw[hl]at hn;cases hn
 | some p =>
  unfold back at hl
  split at hl
  ·
   rename_i s hs
   obtain⟨n,hn⟩:=Zfl hl
   exact Zd2 (n:=n+1) (by unfold iter;rw[hs];exact hn)
  ·
   rename_i r hr
   refine Zd2 (n:=1) ?_
   unfold iter
   split
   ·
    rename_i s hs;exact absurd hs (hr s)
   ·
    exact hl
end
theorem Zt (E:Env) (c:Code) {β : Type} (s:St) (K:Ex→St→Option β):denC E (.loop c) s K=denC E c (nrm E (rid c) s) (seqK (fun s=>denC E (.loop c) s K) K):=by
 have h1:∀s,denC E (.loop c) s K=(loopR (fun s=>denC E c s (backK E (rid c))) (nrm E (rid c) s)).bind fun p=>K p.1 p.2:=fun s=>by simp only[denC]
 rw[h1,ZhU,Zgg E c (nrm E (rid c) s) (seqK (fun s=>denC E (.loop c) s K) K),Zgg E c (nrm E (rid c) s) (backK E (rid c))]
 cases denC E c (nrm E (rid c) s) (fun e s=>some (e,s))with
 | none=>rfl
 | some p =>
  obtain⟨e,s'⟩:=p
  cases e with
  | normal=>exact(h1 s').symm
  | exit i=>rfl
  | ret=>rfl
end Go.Proofs.YthmcpmnhdbeahaaGreat.D
namespace Go.Proofs.YthmcpmnhdbeahaaGreat.D
open Go Go.RowKit
def rd (xs:List Int) (i:Int):Int:=xs.getD i.toNat 0
def row (xs:List (List Int)) (i:Int):List Int:=xs.getD i.toNat []
def T (g:List (List Int)) (a b:Int):Int:=rd (row g a) b
section
variable {P:Program} {t:TypeId}
def stOf:TypeDesc→Option (Array Field)
 | .struct f=>some f
 | _=>none
def Zle:TypeDesc→Bool
 | .struct _=>false
 | .array _ _=>false
 | _=>true
theorem Zgo {fs:List (Nat×TypeId)} (h1:((P.underlying t).bind stOf).map (fun fields=>fields.toList.map fun f=>(f.offset,f.type))=some fs) (h2:(((P.underlying t).bind stOf).bind fun fields=>fields.toList.mapM fun f=>(P.info? f.type).map fun i=>(f.offset,i.size)).isSome=true):Zf9 P t (.st fs):=by
 cases hu:P.underlying t with
 | none=>rw[hu]at h1;cases h1
 | some d =>
  rw[hu]at h1 h2
  cases d <;> first|(cases h1;done)|skip
  rename_i fields
  simp only[Option.bind_some,stOf,Option.map_some,Option.some.injEq]at h1 h2
  cases hm:fields.toList.mapM fun f=>(P.info? f.type).map fun i=>(f.offset,i.size)with
  | none=>rw[hm]at h2;cases h2
  | some places=>exact⟨fields,hu,h1,places,hm⟩
theorem ZiL (h:((P.underlying t).map Zle)=some true):Zf9 P t .other:=by
 cases hu:P.underlying t with
 | none=>rw[hu]at h;cases h
 | some d =>
  rw[hu]at h
  refine⟨d,hu,?_⟩
  cases d <;> first|trivial|cases h
theorem tiMk {k:TK} {size bytes:Nat} {zero:List Lf} {ty:Ty} (hk:Zf9 P t k) (h1:(P.info? t).map (fun i=>(i.size,i.bytes))=some (size,bytes)) (h2:((P.info? t).bind (·.zero)).bind (fun z=>Zdj z.cells.toList)=some zero) (h3:((P.info? t).bind (·.zero)).map (fun z=>z.cells.toList)=some (zcells ty)):TiOk P t ⟨k,size,bytes,zero,ty,true⟩:=by
 refine⟨hk,?_⟩
 cases hi:P.info? t with
 | none=>rw[hi]at h1;cases h1
 | some i =>
  rw[hi]at h1 h2 h3
  simp only[Option.map_some,Option.some.injEq,Prod.mk.injEq]at h1
  refine⟨i,rfl,h1.1,h1.2,fun _ _ => ?_⟩
  cases hz:i.zero with
  | none=>simp[hz]at h2
  | some z =>
   simp only[Option.bind_some,hz,Option.map_some,Option.some.injEq]at h2 h3
   exact⟨z,rfl,h2,fun _=>h3⟩
theorem tiMk' {k:TK} {size bytes:Nat} {zero:List Lf} {ty:Ty} (hk:Zf9 P t k) (h1:(P.info? t).map (fun i=>(i.size,i.bytes))=some (size,bytes)) (h2:zero.length≠size):TiOk P t ⟨k,size,bytes,zero,ty,false⟩:=by
 refine⟨hk,?_⟩
 cases hi:P.info? t with
 | none=>rw[hi]at h1;cases h1
 | some i =>
  rw[hi]at h1
  simp only[Option.map_some,Option.some.injEq,Prod.mk.injEq]at h1
  exact⟨i,rfl,h1.1,h1.2,fun h=>absurd h h2⟩
theorem ttNil:TtOk P []:=fun _ _ h=>by cases h
theorem ZbI {i:TI} {r:List (Nat×TI)} (h:TiOk P t i) (hr:TtOk P r):TtOk P ((t,i) :: r):=fun u j hj=>by
 by_cases e:u=t
 ·
  subst e
  simp[lk]at hj
  subst hj
  exact h
 ·
  simp[lk,Zby e]at hj
  exact hr u j hj
theorem Zap:ZcU P []:=fun _ _ h=>by cases h
theorem Ze {g:FuncId} {c:Con} {r:List (Nat×Con)} (h:Valid P g c) (hr:ZcU P r):ZcU P ((g,c) :: r):=fun u j hj=>by
 by_cases e:u=g
 ·
  subst e
  simp[lk]at hj
  subst hj
  exact h
 ·
  simp[lk,Zby e]at hj
  exact hr u j hj
end
end Go.Proofs.YthmcpmnhdbeahaaGreat.D
namespace Go.Proofs.YthmcpmnhdbeahaaGreat.P
open Go Go.RowKit Go.Proofs.YthmcpmnhdbeahaaGreat.D
theorem ti2:TiOk Tryz.prog 2 ⟨.int .i64,1,8,[.int .i64 0],(.int .i64),true⟩:=tiMk (show Tryz.prog.underlying 2=some (.int .i64)by kernel_rfl) (by kernel_rfl) (by kernel_rfl) (by kernel_rfl)
theorem ti3:TiOk Tryz.prog 3 ⟨.int .i64,1,8,[.int .i64 0],(.int .i64),true⟩:=tiMk (show Tryz.prog.underlying 3=some (.int .i64)by kernel_rfl) (by kernel_rfl) (by kernel_rfl) (by kernel_rfl)
theorem ti4:TiOk Tryz.prog 4 ⟨.bool,1,1,[fls],.bool,true⟩:=tiMk (show Tryz.prog.underlying 4=some .bool by kernel_rfl) (by kernel_rfl) (by kernel_rfl) (by kernel_rfl)
theorem ti5:TiOk Tryz.prog 5 ⟨.int .u8,1,1,[.int .u8 0],(.int .u8),true⟩:=tiMk (show Tryz.prog.underlying 5=some (.int .u8)by kernel_rfl) (by kernel_rfl) (by kernel_rfl) (by kernel_rfl)
theorem ti9:TiOk Tryz.prog 9 ⟨.str,1,16,[.str ByteArray.empty],.str,true⟩:=tiMk (show Tryz.prog.underlying 9=some .string by kernel_rfl) (by kernel_rfl) (by kernel_rfl) (by kernel_rfl)
theorem ti22:TiOk Tryz.prog 22 ⟨.sl 5,1,24,[.nil],(.sl 5 (.int .u8)),true⟩:=tiMk (show Tryz.prog.underlying 22=some (.slice 5)by kernel_rfl) (by kernel_rfl) (by kernel_rfl) (by kernel_rfl)
theorem ti24:TiOk Tryz.prog 24 ⟨.sl 27,1,24,[.nil],(.sl 27 (.sl 2 (.int .i64))),true⟩:=tiMk (show Tryz.prog.underlying 24=some (.slice 27)by kernel_rfl) (by kernel_rfl) (by kernel_rfl) (by kernel_rfl)
theorem ti26:TiOk Tryz.prog 26 ⟨.st [(0,24)],1,24,[.nil],(.sl 27 (.sl 2 (.int .i64))),true⟩:=tiMk (Zgo (by kernel_rfl) (by kernel_rfl)) (by kernel_rfl) (by kernel_rfl) (by kernel_rfl)
theorem ti27:TiOk Tryz.prog 27 ⟨.sl 2,1,24,[.nil],(.sl 2 (.int .i64)),true⟩:=tiMk (show Tryz.prog.underlying 27=some (.slice 2)by kernel_rfl) (by kernel_rfl) (by kernel_rfl) (by kernel_rfl)
theorem ti29:TiOk Tryz.prog 29 ⟨.st [(0,2),(1,27)],2,32,[.int .i64 0,.nil],(.pr (.int .i64) (.sl 2 (.int .i64))),true⟩:=tiMk (Zgo (by kernel_rfl) (by kernel_rfl)) (by kernel_rfl) (by kernel_rfl) (by kernel_rfl)
theorem ti56:TiOk Tryz.prog 56 ⟨.st [(0,2),(1,27)],2,32,[.int .i64 0,.nil],(.pr (.int .i64) (.sl 2 (.int .i64))),true⟩:=tiMk (Zgo (by kernel_rfl) (by kernel_rfl)) (by kernel_rfl) (by kernel_rfl) (by kernel_rfl)
theorem ti100:TiOk Tryz.prog 100 ⟨.other,1,8,[],(.int .i64),false⟩:=tiMk' (ZiL (by kernel_rfl)) (by kernel_rfl) (by decide)
theorem ti137:TiOk Tryz.prog 137 ⟨.int .u64,1,8,[.int .u64 0],(.int .u64),true⟩:=tiMk (show Tryz.prog.underlying 137=some (.int .u64)by kernel_rfl) (by kernel_rfl) (by kernel_rfl) (by kernel_rfl)
theorem ti141:TiOk Tryz.prog 141 ⟨.int .u64,1,8,[.int .u64 0],(.int .u64),true⟩:=tiMk (show Tryz.prog.underlying 141=some (.int .u64)by kernel_rfl) (by kernel_rfl) (by kernel_rfl) (by kernel_rfl)
theorem ti143:TiOk Tryz.prog 143 ⟨.st [(0,22),(1,3),(2,141)],3,40,[.nil,.int .i64 0,.int .u64 0],(.pr (.sl 5 (.int .u8)) (.pr (.int .i64) (.int .u64))),true⟩:=tiMk (Zgo (by kernel_rfl) (by kernel_rfl)) (by kernel_rfl) (by kernel_rfl) (by kernel_rfl)
theorem ti144:TiOk Tryz.prog 144 ⟨.sl 29,1,24,[.nil],(.sl 29 (.pr (.int .i64) (.sl 2 (.int .i64)))),true⟩:=tiMk (show Tryz.prog.underlying 144=some (.slice 29)by kernel_rfl) (by kernel_rfl) (by kernel_rfl) (by kernel_rfl)
theorem ti149:TiOk Tryz.prog 149 ⟨.sl 56,1,24,[.nil],(.sl 56 (.pr (.int .i64) (.sl 2 (.int .i64)))),true⟩:=tiMk (show Tryz.prog.underlying 149=some (.slice 56)by kernel_rfl) (by kernel_rfl) (by kernel_rfl) (by kernel_rfl)
theorem ti182:TiOk Tryz.prog 182 ⟨.int .u32,1,4,[.int .u32 0],(.int .u32),true⟩:=tiMk (show Tryz.prog.underlying 182=some (.int .u32)by kernel_rfl) (by kernel_rfl) (by kernel_rfl) (by kernel_rfl)
theorem ti187:TiOk Tryz.prog 187 ⟨.st [(0,2),(1,24)],2,32,[.int .i64 0,.nil],(.pr (.int .i64) (.sl 27 (.sl 2 (.int .i64)))),true⟩:=tiMk (Zgo (by kernel_rfl) (by kernel_rfl)) (by kernel_rfl) (by kernel_rfl) (by kernel_rfl)
theorem ti191:TiOk Tryz.prog 191 ⟨.sl 9,1,24,[.nil],(.sl 9 .str),true⟩:=tiMk (show Tryz.prog.underlying 191=some (.slice 9)by kernel_rfl) (by kernel_rfl) (by kernel_rfl) (by kernel_rfl)
noncomputable def TT:List (Nat×TI):=[(2,⟨.int .i64,1,8,[.int .i64 0],(.int .i64),true⟩),(3,⟨.int .i64,1,8,[.int .i64 0],(.int .i64),true⟩),(4,⟨.bool,1,1,[fls],.bool,true⟩),(5,⟨.int .u8,1,1,[.int .u8 0],(.int .u8),true⟩),(9,⟨.str,1,16,[.str ByteArray.empty],.str,true⟩),(22,⟨.sl 5,1,24,[.nil],(.sl 5 (.int .u8)),true⟩),(24,⟨.sl 27,1,24,[.nil],(.sl 27 (.sl 2 (.int .i64))),true⟩),(26,⟨.st [(0,24)],1,24,[.nil],(.sl 27 (.sl 2 (.int .i64))),true⟩),(27,⟨.sl 2,1,24,[.nil],(.sl 2 (.int .i64)),true⟩),(29,⟨.st [(0,2),(1,27)],2,32,[.int .i64 0,.nil],(.pr (.int .i64) (.sl 2 (.int .i64))),true⟩),(56,⟨.st [(0,2),(1,27)],2,32,[.int .i64 0,.nil],(.pr (.int .i64) (.sl 2 (.int .i64))),true⟩),(100,⟨.other,1,8,[],(.int .i64),false⟩),(137,⟨.int .u64,1,8,[.int .u64 0],(.int .u64),true⟩),(141,⟨.int .u64,1,8,[.int .u64 0],(.int .u64),true⟩),(143,⟨.st [(0,22),(1,3),(2,141)],3,40,[.nil,.int .i64 0,.int .u64 0],(.pr (.sl 5 (.int .u8)) (.pr (.int .i64) (.int .u64))),true⟩),(144,⟨.sl 29,1,24,[.nil],(.sl 29 (.pr (.int .i64) (.sl 2 (.int .i64)))),true⟩),(149,⟨.sl 56,1,24,[.nil],(.sl 56 (.pr (.int .i64) (.sl 2 (.int .i64)))),true⟩),(182,⟨.int .u32,1,4,[.int .u32 0],(.int .u32),true⟩),(187,⟨.st [(0,2),(1,24)],2,32,[.int .i64 0,.nil],(.pr (.int .i64) (.sl 27 (.sl 2 (.int .i64)))),true⟩),(191,⟨.sl 9,1,24,[.nil],(.sl 9 .str),true⟩)]
theorem ttOk:TtOk Tryz.prog TT:=(ZbI ti2 (ZbI ti3 (ZbI ti4 (ZbI ti5 (ZbI ti9 (ZbI ti22 (ZbI ti24 (ZbI ti26 (ZbI ti27 (ZbI ti29 (ZbI ti56 (ZbI ti100 (ZbI ti137 (ZbI ti141 (ZbI ti143 (ZbI ti144 (ZbI ti149 (ZbI ti182 (ZbI ti187 (ZbI ti191 ttNil))))))))))))))))))))
theorem fnV (f:D.Fn) (E:Env) {R:Type} (enc:lsd (flats f.outs)×lsd (ios f.ins)→R) {g:FuncId} {fn:Func} {dec:R→lsd (flats f.outs)×lsd (ios f.ins)} (hE:EnvOk Tryz.prog E) (h:Tryz.prog.funcs[g]? = some fn) (h1:fn.body=some f.body:=by kernel_rfl)
  (h2 : (fn.name == "runtime.NumGoroutine") = false := by kernel_rfl)
  (h3:fn.results.toList=f.res:=by kernel_rfl) (h4:fn.ntmps=E.n:=by kernel_rfl) (h5:f.ins.length≤E.n:=by decide) (h6:roOk f.ins=true:=by kernel_rfl) (h7:(ZbH f.ins 0).all (fun T=>Nat.blt T E.pin)=true:=by kernel_rfl) (h8:∀y,dec (enc y)=y:=by exact fun _=>rfl):Valid Tryz.prog g ⟨f.ins,f.outs,R,denF E f enc,dec⟩:=ZfH hE (Checked.mixed Tryz.checked) ⟨h,h1,h2,h3,h4,h5,h6,h7⟩ h8
end Go.Proofs.YthmcpmnhdbeahaaGreat.P
set_option maxRecDepth 100000
namespace Go.Proofs.YthmcpmnhdbeahaaGreat.P
open Go Go.RowKit Go.Proofs.YthmcpmnhdbeahaaGreat.D
noncomputable def Zbq.E:Env:={ tt:=TT,con:=[],frz:=[],rows:=[],live:=[],n:=6,pin:=0,nils:=[] }
noncomputable def Zbq.fn:D.Fn:={ body:=Tryz.f7.body.getD .skip,res:=Tryz.f7.results.toList,ins:=[.one (.v (.sl 5 (.int .u8)))],outs:=[.one (.v .bool)] }
def Zbq.enc (y:lsd (flats Zbq.fn.outs)×lsd (ios Zbq.fn.ins)):Bool:=y.1.1
noncomputable def Zbq.f (l0:List Int):Option Bool:=denF Zbq.E Zbq.fn Zbq.enc (l0,())
theorem Zbq.f_eq (l0:List Int):Zbq.f l0=some (decide ((l0.length:Int) > 4096)):=by kernel_rfl
noncomputable def Zbq.con:Con:=⟨Zbq.fn.ins,Zbq.fn.outs,Bool,fun x=>Zbq.f x.1,fun r=>((r,()),(()))⟩
theorem Zbq.valid:Valid Tryz.prog 7 Zbq.con:=fnV Zbq.fn Zbq.E Zbq.enc ⟨ttOk,Zap⟩ Tryz.func7
end Go.Proofs.YthmcpmnhdbeahaaGreat.P
namespace Go.Proofs.YthmcpmnhdbeahaaGreat.P
open Go Go.RowKit Go.Proofs.YthmcpmnhdbeahaaGreat.D
noncomputable def Z8.E:Env:={ tt:=TT,con:=[],frz:=[],rows:=[],live:=[(4,[0,1,5])],n:=26,pin:=0,nils:=[] }
noncomputable def Z8.fn:D.Fn:={ body:=Tryz.f16.body.getD .skip,res:=Tryz.f16.results.toList,ins:=[.one (.v (.sl 2 (.int .i64))),.one (.v (.sl 2 (.int .i64)))],outs:=[.one (.v .bool)] }
def Z8.enc (y:lsd (flats Z8.fn.outs)×lsd (ios Z8.fn.ins)):Bool:=y.1.1
noncomputable def Z8.f (l0:List Int) (l1:List Int):Option Bool:=denF Z8.E Z8.fn Z8.enc (l0,l1,())
noncomputable def Z8.l0 (x0:List Int) (x1:List Int) (x5:Int):Option Bool:=denAt Z8.E Z8.fn Z8.enc [1,1,0,1,0] { fr:=[(0,.lf (.sl (.int .i64) x0)),(1,.lf (.sl (.int .i64) x1)),(5,.lf (.int .i64 x5))],ob:=[],nx:=0 }
theorem Z8.f_eq (l0:List Int) (l1:List Int):Z8.f l0 l1=if(l0.length:Int)=(l1.length:Int)then(Z8.l0 l0 l1 0)else(some false):=by kernel_rfl
theorem Z8.l0_eq (x0:List Int) (x1:List Int) (x5:Int):Z8.l0 x0 x1 x5=if x5 < (x0.length:Int)then(if 0≤x5 then(if x5 < (x0.length:Int)then(if 0≤x5 then(if x5 < (x1.length:Int)then(if(rd x0 x5)=(rd x1 x5)then(Z8.l0 x0 x1 (wrapI (x5+1)))else(some false))else none)else none)else none)else none)else(some true):=(Zt _ _ _ _).trans (by kernel_rfl)
noncomputable def Z8.con:Con:=⟨Z8.fn.ins,Z8.fn.outs,Bool,fun x=>Z8.f x.1 x.2.1,fun r=>((r,()),(()))⟩
theorem Z8.valid:Valid Tryz.prog 16 Z8.con:=fnV Z8.fn Z8.E Z8.enc ⟨ttOk,Zap⟩ Tryz.func16
end Go.Proofs.YthmcpmnhdbeahaaGreat.P
namespace Go.Proofs.YthmcpmnhdbeahaaGreat.P
open Go Go.RowKit Go.Proofs.YthmcpmnhdbeahaaGreat.D
noncomputable def Zau.E:Env:={ tt:=TT,con:=[],frz:=[],rows:=[],live:=[(3,[0,3,4])],n:=38,pin:=0,nils:=[] }
noncomputable def Zau.fn:D.Fn:={ body:=Tryz.f100.body.getD .skip,res:=Tryz.f100.results.toList,ins:=[.one (.v (.sl 5 (.int .u8)))],outs:=[.ptr false 143 [.v (.sl 5 (.int .u8)),.v (.int .i64),.v (.int .u64)]] }
def Zau.enc (y:lsd (flats Zau.fn.outs)×lsd (ios Zau.fn.ins)):(List Int)×Int×Int:=(y.1.1,y.1.2.1,y.1.2.2.1)
noncomputable def Zau.f (l0:List Int):Option ((List Int)×Int×Int):=denF Zau.E Zau.fn Zau.enc (l0,())
noncomputable def Zau.l0 (x0:List Int) (x4:Int) (b0_0:List Int) (b0_1:Int) (b0_2:Int):Option ((List Int)×Int×Int):=denAt Zau.E Zau.fn Zau.enc [1,1,0,1,0] { fr:=[(0,.lf (.sl (.int .u8) x0)),(3,.lf (.box 0 0)),(4,.lf (.int .i64 x4))],ob:=[(0,.box 143 false [.sl (.int .u8) b0_0,.int .i64 b0_1,.int .u64 b0_2])],nx:=1 }
theorem Zau.f_eq (l0:List Int):Zau.f l0=Zau.l0 l0 0 l0 0 (wr .u64 (13631+(wr .u64 (l0.length:Int)))):=by kernel_rfl
theorem Zau.l0_eq (x0:List Int) (x4:Int) (b0_0:List Int) (b0_1:Int) (b0_2:Int):Zau.l0 x0 x4 b0_0 b0_1 b0_2=if x4 < (x0.length:Int)then(if x4 < 4096 then(if 0≤x4 then(if x4 < (x0.length:Int)then(Zau.l0 x0 (wrapI (x4+1)) b0_0 b0_1 (wr .u64 ((wr .u64 ((wr .u64 (b0_2*1099511628211))+(wr .u64 (rd x0 x4))))+197)))else none)else none)else(some (b0_0,b0_1,b0_2)))else(some (b0_0,b0_1,b0_2)):=(Zt _ _ _ _).trans (by kernel_rfl)
noncomputable def Zau.con:Con:=⟨Zau.fn.ins,Zau.fn.outs,(List Int)×Int×Int,fun x=>Zau.f x.1,fun r=>((r.1,r.2.1,r.2.2,()),(()))⟩
theorem Zau.valid:Valid Tryz.prog 100 Zau.con:=fnV Zau.fn Zau.E Zau.enc ⟨ttOk,Zap⟩ Tryz.func100
end Go.Proofs.YthmcpmnhdbeahaaGreat.P
namespace Go.Proofs.YthmcpmnhdbeahaaGreat.P
open Go Go.RowKit Go.Proofs.YthmcpmnhdbeahaaGreat.D
noncomputable def Zay.E:Env:={ tt:=TT,con:=[],frz:=[],rows:=[],live:=[],n:=6,pin:=0,nils:=[] }
noncomputable def Zay.fn:D.Fn:={ body:=Tryz.f91.body.getD .skip,res:=Tryz.f91.results.toList,ins:=[.agg [.v (.sl 27 (.sl 2 (.int .i64)))]],outs:=[.one (.v (.int .i64))] }
def Zay.enc (y:lsd (flats Zay.fn.outs)×lsd (ios Zay.fn.ins)):Int:=y.1.1
noncomputable def Zay.f (l0_0:List (List Int)):Option Int:=denF Zay.E Zay.fn Zay.enc (l0_0,())
theorem Zay.f_eq (l0_0:List (List Int)):Zay.f l0_0=some (l0_0.length:Int):=by kernel_rfl
noncomputable def Zay.con:Con:=⟨Zay.fn.ins,Zay.fn.outs,Int,fun x=>Zay.f x.1,fun r=>((r,()),(()))⟩
theorem Zay.valid:Valid Tryz.prog 91 Zay.con:=fnV Zay.fn Zay.E Zay.enc ⟨ttOk,Zap⟩ Tryz.func91
end Go.Proofs.YthmcpmnhdbeahaaGreat.P
namespace Go.Proofs.YthmcpmnhdbeahaaGreat.P
open Go Go.RowKit Go.Proofs.YthmcpmnhdbeahaaGreat.D
noncomputable def ZZ.E:Env:={ tt:=TT,con:=[],frz:=[],rows:=[],live:=[],n:=58,pin:=1,nils:=[] }
noncomputable def ZZ.fn:D.Fn:={ body:=Tryz.f174.body.getD .skip,res:=Tryz.f174.results.toList,ins:=[.ptr false 143 [.v (.sl 5 (.int .u8)),.v (.int .i64),.v (.int .u64)],.one (.v (.int .i64))],outs:=[.one (.v (.int .i64))] }
def ZZ.enc (y:lsd (flats ZZ.fn.outs)×lsd (ios ZZ.fn.ins)):Int×(List Int)×Int×Int:=(y.1.1,y.2.1,y.2.2.1,y.2.2.2.1)
noncomputable def ZZ.f (l0_0:List Int) (a0_1:Int) (a0_2:Int) (a1:Int):Option (Int×(List Int)×Int×Int):=denF ZZ.E ZZ.fn ZZ.enc (l0_0,a0_1,a0_2,a1,())
theorem ZZ.f_eq (l0_0:List Int) (a0_1:Int) (a0_2:Int) (a1:Int):ZZ.f l0_0 a0_1 a0_2 a1=if a1 < 1 then(some (0,l0_0,a0_1,a0_2))else(if a0_1 < (l0_0.length:Int)then(if 0≤a0_1 then(if a0_1 < (l0_0.length:Int)then(if a1=0 then none else(some ((wrapI ((wrapI (andI .u64 (shrI .u64 (wr .u64 ((wr .u64 (a0_2*6364136223846793005))+1442695040888963407)) 33) 16777215))+(wrapI (rd l0_0 a0_1))):Int).tmod a1,l0_0,wrapI (a0_1+1),wr .u64 ((wr .u64 (a0_2*6364136223846793005))+1442695040888963407))))else none)else none)else(if a1=0 then none else(some ((wrapI (andI .u64 (shrI .u64 (wr .u64 ((wr .u64 (a0_2*6364136223846793005))+1442695040888963407)) 33) 16777215):Int).tmod a1,l0_0,a0_1,wr .u64 ((wr .u64 (a0_2*6364136223846793005))+1442695040888963407))))):=by kernel_rfl
noncomputable def ZZ.con:Con:=⟨ZZ.fn.ins,ZZ.fn.outs,Int×(List Int)×Int×Int,fun x=>ZZ.f x.1 x.2.1 x.2.2.1 x.2.2.2.1,fun r=>((r.1,()),(r.2.1,r.2.2.1,r.2.2.2,()))⟩
theorem ZZ.valid:Valid Tryz.prog 174 ZZ.con:=fnV ZZ.fn ZZ.E ZZ.enc ⟨ttOk,Zap⟩ Tryz.func174
end Go.Proofs.YthmcpmnhdbeahaaGreat.P
namespace Go.Proofs.YthmcpmnhdbeahaaGreat.P
open Go Go.RowKit Go.Proofs.YthmcpmnhdbeahaaGreat.D
noncomputable def ZaS.E:Env:={ tt:=TT,con:=[(174,ZZ.con)],frz:=[],rows:=[],live:=[],n:=12,pin:=1,nils:=[] }
noncomputable def ZaS.fn:D.Fn:={ body:=Tryz.f175.body.getD .skip,res:=Tryz.f175.results.toList,ins:=[.ptr false 143 [.v (.sl 5 (.int .u8)),.v (.int .i64),.v (.int .u64)],.one (.v (.sl 2 (.int .i64)))],outs:=[.one (.v (.int .i64))] }
def ZaS.enc (y:lsd (flats ZaS.fn.outs)×lsd (ios ZaS.fn.ins)):Int×(List Int)×Int×Int:=(y.1.1,y.2.1,y.2.2.1,y.2.2.2.1)
noncomputable def ZaS.f (l0_0:List Int) (a0_1:Int) (a0_2:Int) (l1:List Int):Option (Int×(List Int)×Int×Int):=denF ZaS.E ZaS.fn ZaS.enc (l0_0,a0_1,a0_2,l1,())
theorem ZaS.f_eq (l0_0:List Int) (a0_1:Int) (a0_2:Int) (l1:List Int):ZaS.f l0_0 a0_1 a0_2 l1=(ZZ.f l0_0 a0_1 a0_2 (l1.length:Int)).bind fun t9=>if 0≤t9.1 then(if t9.1 < (l1.length:Int)then(some (rd l1 t9.1,t9.2.1,t9.2.2.1,t9.2.2.2))else none)else none:=by kernel_rfl
noncomputable def ZaS.con:Con:=⟨ZaS.fn.ins,ZaS.fn.outs,Int×(List Int)×Int×Int,fun x=>ZaS.f x.1 x.2.1 x.2.2.1 x.2.2.2.1,fun r=>((r.1,()),(r.2.1,r.2.2.1,r.2.2.2,()))⟩
theorem ZaS.valid:Valid Tryz.prog 175 ZaS.con:=fnV ZaS.fn ZaS.E ZaS.enc ⟨ttOk,(Ze ZZ.valid Zap)⟩ Tryz.func175
end Go.Proofs.YthmcpmnhdbeahaaGreat.P
namespace Go.Proofs.YthmcpmnhdbeahaaGreat.P
open Go Go.RowKit Go.Proofs.YthmcpmnhdbeahaaGreat.D
noncomputable def ZaF.E:Env:={ tt:=TT,con:=[],frz:=[],rows:=[],live:=[],n:=6,pin:=0,nils:=[] }
noncomputable def ZaF.fn:D.Fn:={ body:=Tryz.f184.body.getD .skip,res:=Tryz.f184.results.toList,ins:=[.one (.v (.sl 2 (.int .i64)))],outs:=[.one (.own 2 true (.int .i64))] }
def ZaF.enc (y:lsd (flats ZaF.fn.outs)×lsd (ios ZaF.fn.ins)):(List Int):=y.1.1
noncomputable def ZaF.f (l0:List Int):Option (List Int):=denF ZaF.E ZaF.fn ZaF.enc (l0,())
theorem ZaF.f_eq (l0:List Int):ZaF.f l0=if([]:List Int).length+l0.length≤17592186044416 then(some (([]:List Int)++l0))else none:=by kernel_rfl
noncomputable def ZaF.con:Con:=⟨ZaF.fn.ins,ZaF.fn.outs,(List Int),fun x=>ZaF.f x.1,fun r=>((r,()),(()))⟩
theorem ZaF.valid:Valid Tryz.prog 184 ZaF.con:=fnV ZaF.fn ZaF.E ZaF.enc ⟨ttOk,Zap⟩ Tryz.func184
end Go.Proofs.YthmcpmnhdbeahaaGreat.P
namespace Go.Proofs.YthmcpmnhdbeahaaGreat.P
open Go Go.RowKit Go.Proofs.YthmcpmnhdbeahaaGreat.D
noncomputable def Zat.E:Env:={ tt:=TT,con:=[(184,ZaF.con)],frz:=[],rows:=[],live:=[(3,[1,2,3,4])],n:=26,pin:=0,nils:=[] }
noncomputable def Zat.fn:D.Fn:={ body:=Tryz.f232.body.getD .skip,res:=Tryz.f232.results.toList,ins:=[.agg [.v (.sl 27 (.sl 2 (.int .i64)))]],outs:=[.agg [.own 27 true (.sl 2 (.int .i64))]] }
def Zat.enc (y:lsd (flats Zat.fn.outs)×lsd (ios Zat.fn.ins)):(List (List Int)):=y.1.1
noncomputable def Zat.f (l0_0:List (List Int)):Option (List (List Int)):=denF Zat.E Zat.fn Zat.enc (l0_0,())
noncomputable def Zat.l0 (x4:Int) (b0_0:List (List Int)) (r3:List (List Int)):Option (List (List Int)):=denAt Zat.E Zat.fn Zat.enc [1,1,0,1,0] { fr:=[(1,.lf (.box 0 0)),(2,.lf (.box 1 0)),(3,.lf (.box 2 0)),(4,.lf (.int .i64 x4))],ob:=[(0,.box 26 false [.sl (.sl 2 (.int .i64)) b0_0]),(1,.box 26 false [.nil]),(2,.box 26 false [.own 3]),(3,.row 27 true (.sl 2 (.int .i64)) r3)],nx:=4 }
theorem Zat.f_eq (l0_0:List (List Int)):Zat.f l0_0=Zat.l0 0 l0_0 ([]:List (List Int)):=by kernel_rfl
theorem Zat.l0_eq (x4:Int) (b0_0:List (List Int)) (r3:List (List Int)):Zat.l0 x4 b0_0 r3=if x4 < (b0_0.length:Int)then(if 0≤x4 then(if x4 < (b0_0.length:Int)then((ZaF.f (row b0_0 x4)).bind fun t21=>if r3.length+([t21]:List (List Int)).length≤5864062014805 then(Zat.l0 (wrapI (x4+1)) b0_0 (r3++([t21]:List (List Int))))else none)else none)else none)else(some r3):=(Zt _ _ _ _).trans (by kernel_rfl)
noncomputable def Zat.con:Con:=⟨Zat.fn.ins,Zat.fn.outs,(List (List Int)),fun x=>Zat.f x.1,fun r=>((r,()),(()))⟩
theorem Zat.valid:Valid Tryz.prog 232 Zat.con:=fnV Zat.fn Zat.E Zat.enc ⟨ttOk,(Ze ZaF.valid Zap)⟩ Tryz.func232
end Go.Proofs.YthmcpmnhdbeahaaGreat.P
namespace Go.Proofs.YthmcpmnhdbeahaaGreat.P
open Go Go.RowKit Go.Proofs.YthmcpmnhdbeahaaGreat.D
noncomputable def Zbf.E:Env:={ tt:=TT,con:=[(232,Zat.con),(174,ZZ.con),(91,Zay.con),(175,ZaS.con),(184,ZaF.con)],frz:=[33,36,45,49,66],rows:=[46,1000010,1000014],live:=[(8,[4,5]),(10,[4,5]),(11,[4,5]),(14,[4,5,7]),(15,[4,5])],n:=68,pin:=1,nils:=[] }
noncomputable def Zbf.fn:D.Fn:={ body:=Tryz.f170.body.getD .skip,res:=Tryz.f170.results.toList,ins:=[.ptr false 143 [.v (.sl 5 (.int .u8)),.v (.int .i64),.v (.int .u64)],.agg [.v (.sl 27 (.sl 2 (.int .i64)))]],outs:=[.agg [.v (.sl 27 (.sl 2 (.int .i64)))]] }
def Zbf.enc (y:lsd (flats Zbf.fn.outs)×lsd (ios Zbf.fn.ins)):(List (List Int))×(List Int)×Int×Int:=(y.1.1,y.2.1,y.2.2.1,y.2.2.2.1)
noncomputable def Zbf.f (l0_0:List Int) (a0_1:Int) (a0_2:Int) (l1_0:List (List Int)):Option ((List (List Int))×(List Int)×Int×Int):=denF Zbf.E Zbf.fn Zbf.enc (l0_0,a0_1,a0_2,l1_0,())
theorem Zbf.f_eq (l0_0:List Int) (a0_1:Int) (a0_2:Int) (l1_0:List (List Int)):Zbf.f l0_0 a0_1 a0_2 l1_0=(Zat.f l1_0).bind fun t9=>(ZZ.f l0_0 a0_1 a0_2 50).bind fun t11=>if t11.1=0 then(some (([]:List (List Int)),t11.2.1,t11.2.2.1,t11.2.2.2))else(if t11.1=1 then((Zay.f l1_0).bind fun t21=>(ZZ.f t11.2.1 t11.2.2.1 t11.2.2.2 t21).bind fun t22=>if 0≤t22.1 then(if t22.1 < (t9.length:Int)then(if 0≤t22.1 then(if t22.1 < (t9.length:Int)then((Zay.f l1_0).bind fun t28=>(ZZ.f t22.2.1 t22.2.2.1 t22.2.2.2 t28).bind fun t29=>(Zay.f l1_0).bind fun t32=>(ZaS.f t29.2.1 t29.2.2.1 t29.2.2.2 ([0,1,-1,t32]:List Int)).bind fun t34=>if 0≤t29.1 then(if t29.1 < ((row t9 t22.1).length:Int)then(if 0≤t29.1 then(if t29.1 < ((row t9 t22.1).length:Int)then(some (t9.set (t22.1:Int).toNat ((row t9 t22.1).set (t29.1:Int).toNat t34.1),t34.2.1,t34.2.2.1,t34.2.2.2))else none)else none)else none)else none)else none)else none)else none)else none)else(if t11.1=2 then(if 0 < (t9.length:Int)then(if 0 < (t9.length:Int)then((ZaF.f (row t9 0)).bind fun t45=>if t9.length+([t45]:List (List Int)).length≤5864062014805 then(some (t9++([t45]:List (List Int)),t11.2.1,t11.2.2.1,t11.2.2.2))else none)else none)else none)else(if t11.1=3 then((Zay.f l1_0).bind fun t54=>(ZZ.f t11.2.1 t11.2.2.1 t11.2.2.2 t54).bind fun t55=>if 0≤t55.1 then(if t55.1 < (t9.length:Int)then(if 0≤t55.1 then(if t55.1 < (t9.length:Int)then(if 1≤((row t9 t55.1).length:Int)then(if 0≤t55.1 then(if t55.1 < (t9.length:Int)then(if 0≤t55.1 then(if t55.1 < (t9.length:Int)then(some (t9.set (t55.1:Int).toNat ((row t9 t55.1).drop (1:Int).toNat),t55.2.1,t55.2.2.1,t55.2.2.2))else none)else none)else none)else none)else none)else none)else none)else none)else none)else(some (l1_0,t11.2.1,t11.2.2.1,t11.2.2.2))))):=by kernel_rfl
noncomputable def Zbf.con:Con:=⟨Zbf.fn.ins,Zbf.fn.outs,(List (List Int))×(List Int)×Int×Int,fun x=>Zbf.f x.1 x.2.1 x.2.2.1 x.2.2.2.1,fun r=>((r.1,()),(r.2.1,r.2.2.1,r.2.2.2,()))⟩
theorem Zbf.valid:Valid Tryz.prog 170 Zbf.con:=fnV Zbf.fn Zbf.E Zbf.enc ⟨ttOk,(Ze Zat.valid (Ze ZZ.valid (Ze Zay.valid (Ze ZaS.valid (Ze ZaF.valid Zap)))))⟩ Tryz.func170
end Go.Proofs.YthmcpmnhdbeahaaGreat.P
namespace Go.Proofs.YthmcpmnhdbeahaaGreat.P
open Go Go.RowKit Go.Proofs.YthmcpmnhdbeahaaGreat.D
noncomputable def ZA.E:Env:={ tt:=TT,con:=[],frz:=[],rows:=[],live:=[(3,[0,2,3,4]),(7,[0,2,3,4,5,6])],n:=35,pin:=0,nils:=[] }
noncomputable def ZA.fn:D.Fn:={ body:=Tryz.f285.body.getD .skip,res:=Tryz.f285.results.toList,ins:=[.one (.v (.int .i64))],outs:=[.agg [.own 27 true (.sl 2 (.int .i64))]] }
def ZA.enc (y:lsd (flats ZA.fn.outs)×lsd (ios ZA.fn.ins)):(List (List Int)):=y.1.1
noncomputable def ZA.f (a0:Int):Option (List (List Int)):=denF ZA.E ZA.fn ZA.enc (a0,())
noncomputable def ZA.l0 (x0:Int) (x4:Int) (r2:List (List Int)):Option (List (List Int)):=denAt ZA.E ZA.fn ZA.enc [1,1,0,1,0] { fr:=[(0,.lf (.int .i64 x0)),(2,.lf (.box 0 0)),(3,.lf (.box 1 0)),(4,.lf (.int .i64 x4))],ob:=[(0,.box 26 false [.nil]),(1,.box 26 false [.own 2]),(2,.row 27 true (.sl 2 (.int .i64)) r2)],nx:=3 }
noncomputable def ZA.l1 (x0:Int) (x4:Int) (x6:Int) (r2:List Int) (r3:List (List Int)):Option (List (List Int)):=denAt ZA.E ZA.fn ZA.enc [1,1,0,1,0,0,1,0,0,1,0,1,0] { fr:=[(0,.lf (.int .i64 x0)),(2,.lf (.box 0 0)),(3,.lf (.box 1 0)),(4,.lf (.int .i64 x4)),(5,.lf (.own 2)),(6,.lf (.int .i64 x6))],ob:=[(0,.box 26 false [.nil]),(1,.box 26 false [.own 3]),(2,.row 2 true (.int .i64) r2),(3,.row 27 true (.sl 2 (.int .i64)) r3)],nx:=4 }
theorem ZA.f_eq (a0:Int):ZA.f a0=ZA.l0 a0 0 ([]:List (List Int)):=by kernel_rfl
theorem ZA.l0_eq (x0:Int) (x4:Int) (r2:List (List Int)):ZA.l0 x0 x4 r2=if x4 < x0 then(ZA.l1 x0 x4 0 ([]:List Int) r2)else(some r2):=(Zt _ _ _ _).trans (by kernel_rfl)
theorem ZA.l1_eq (x0:Int) (x4:Int) (x6:Int) (r2:List Int) (r3:List (List Int)):ZA.l1 x0 x4 x6 r2 r3=if x6 < x0 then(if x0=0 then none else(if r2.length+([(wrapI (x4+x6):Int).tmod x0]:List Int).length≤17592186044416 then(ZA.l1 x0 x4 (wrapI (x6+1)) (r2++([(wrapI (x4+x6):Int).tmod x0]:List Int)) r3)else none))else(if r3.length+([r2]:List (List Int)).length≤5864062014805 then(ZA.l0 x0 (wrapI (x4+1)) (r3++([r2]:List (List Int))))else none):=(Zt _ _ _ _).trans (by kernel_rfl)
noncomputable def ZA.con:Con:=⟨ZA.fn.ins,ZA.fn.outs,(List (List Int)),fun x=>ZA.f x.1,fun r=>((r,()),(()))⟩
theorem ZA.valid:Valid Tryz.prog 285 ZA.con:=fnV ZA.fn ZA.E ZA.enc ⟨ttOk,Zap⟩ Tryz.func285
end Go.Proofs.YthmcpmnhdbeahaaGreat.P
namespace Go.Proofs.YthmcpmnhdbeahaaGreat.P
open Go Go.RowKit Go.Proofs.YthmcpmnhdbeahaaGreat.D
noncomputable def Zv.E:Env:={ tt:=TT,con:=[(91,Zay.con)],frz:=[],rows:=[],live:=[(3,[2,3,4,5,6,7]),(7,[2,3,4,5,6,7,8,9])],n:=68,pin:=0,nils:=[] }
noncomputable def Zv.fn:D.Fn:={ body:=Tryz.f286.body.getD .skip,res:=Tryz.f286.results.toList,ins:=[.agg [.v (.sl 27 (.sl 2 (.int .i64)))],.agg [.v (.sl 27 (.sl 2 (.int .i64)))]],outs:=[.agg [.own 27 true (.sl 2 (.int .i64))]] }
def Zv.enc (y:lsd (flats Zv.fn.outs)×lsd (ios Zv.fn.ins)):(List (List Int)):=y.1.1
noncomputable def Zv.f (l0_0:List (List Int)) (l1_0:List (List Int)):Option (List (List Int)):=denF Zv.E Zv.fn Zv.enc (l0_0,l1_0,())
noncomputable def Zv.l0 (x5:Int) (x7:Int) (b0_0:List (List Int)) (b1_0:List (List Int)) (r4:List (List Int)):Option (List (List Int)):=denAt Zv.E Zv.fn Zv.enc [1,1,0,1,0] { fr:=[(2,.lf (.box 0 0)),(3,.lf (.box 1 0)),(4,.lf (.box 2 0)),(5,.lf (.int .i64 x5)),(6,.lf (.box 3 0)),(7,.lf (.int .i64 x7))],ob:=[(0,.box 26 false [.sl (.sl 2 (.int .i64)) b0_0]),(1,.box 26 false [.sl (.sl 2 (.int .i64)) b1_0]),(2,.box 26 false [.nil]),(3,.box 26 false [.own 4]),(4,.row 27 true (.sl 2 (.int .i64)) r4)],nx:=5 }
noncomputable def Zv.l1 (x5:Int) (x7:Int) (x9:Int) (b0_0:List (List Int)) (b1_0:List (List Int)) (r4:List Int) (r5:List (List Int)):Option (List (List Int)):=denAt Zv.E Zv.fn Zv.enc [1,1,0,1,0,0,1,0,0,1,0,1,0] { fr:=[(2,.lf (.box 0 0)),(3,.lf (.box 1 0)),(4,.lf (.box 2 0)),(5,.lf (.int .i64 x5)),(6,.lf (.box 3 0)),(7,.lf (.int .i64 x7)),(8,.lf (.own 4)),(9,.lf (.int .i64 x9))],ob:=[(0,.box 26 false [.sl (.sl 2 (.int .i64)) b0_0]),(1,.box 26 false [.sl (.sl 2 (.int .i64)) b1_0]),(2,.box 26 false [.nil]),(3,.box 26 false [.own 5]),(4,.row 2 true (.int .i64) r4),(5,.row 27 true (.sl 2 (.int .i64)) r5)],nx:=6 }
theorem Zv.f_eq (l0_0:List (List Int)) (l1_0:List (List Int)):Zv.f l0_0 l1_0=(Zay.f l1_0).bind fun t11=>Zv.l0 t11 0 l0_0 l1_0 ([]:List (List Int)):=by kernel_rfl
theorem Zv.l0_eq (x5:Int) (x7:Int) (b0_0:List (List Int)) (b1_0:List (List Int)) (r4:List (List Int)):Zv.l0 x5 x7 b0_0 b1_0 r4=(Zay.f b0_0).bind fun t16=>if x7 < (wrapI (t16*x5))then(Zv.l1 x5 x7 0 b0_0 b1_0 ([]:List Int) r4)else(some r4):=(Zt _ _ _ _).trans (by kernel_rfl)
theorem Zv.l1_eq (x5:Int) (x7:Int) (x9:Int) (b0_0:List (List Int)) (b1_0:List (List Int)) (r4:List Int) (r5:List (List Int)):Zv.l1 x5 x7 x9 b0_0 b1_0 r4 r5=(Zay.f b0_0).bind fun t25=>if x9 < (wrapI (t25*x5))then(if x5=0 then none else(if 0≤wrapI ((x7:Int).tdiv x5)then(if wrapI ((x7:Int).tdiv x5) < (b0_0.length:Int)then(if x5=0 then none else(if 0≤wrapI ((x9:Int).tdiv x5)then(if wrapI ((x9:Int).tdiv x5) < ((row b0_0 (wrapI ((x7:Int).tdiv x5))).length:Int)then(if x5=0 then none else(if 0≤(x7:Int).tmod x5 then(if(x7:Int).tmod x5 < (b1_0.length:Int)then(if x5=0 then none else(if 0≤(x9:Int).tmod x5 then(if(x9:Int).tmod x5 < ((row b1_0 ((x7:Int).tmod x5)).length:Int)then(if r4.length+([wrapI ((wrapI (x5*(T b0_0 (wrapI ((x7:Int).tdiv x5)) (wrapI ((x9:Int).tdiv x5)))))+(T b1_0 ((x7:Int).tmod x5) ((x9:Int).tmod x5)))]:List Int).length≤17592186044416 then(Zv.l1 x5 x7 (wrapI (x9+1)) b0_0 b1_0 (r4++([wrapI ((wrapI (x5*(T b0_0 (wrapI ((x7:Int).tdiv x5)) (wrapI ((x9:Int).tdiv x5)))))+(T b1_0 ((x7:Int).tmod x5) ((x9:Int).tmod x5)))]:List Int)) r5)else none)else none)else none))else none)else none))else none)else none))else none)else none))else(if r5.length+([r4]:List (List Int)).length≤5864062014805 then(Zv.l0 x5 (wrapI (x7+1)) b0_0 b1_0 (r5++([r4]:List (List Int))))else none):=(Zt _ _ _ _).trans (by kernel_rfl)
noncomputable def Zv.con:Con:=⟨Zv.fn.ins,Zv.fn.outs,(List (List Int)),fun x=>Zv.f x.1 x.2.1,fun r=>((r,()),(()))⟩
theorem Zv.valid:Valid Tryz.prog 286 Zv.con:=fnV Zv.fn Zv.E Zv.enc ⟨ttOk,(Ze Zay.valid Zap)⟩ Tryz.func286
end Go.Proofs.YthmcpmnhdbeahaaGreat.P
namespace Go.Proofs.YthmcpmnhdbeahaaGreat.P
open Go Go.RowKit Go.Proofs.YthmcpmnhdbeahaaGreat.D
noncomputable def Zbd.E:Env:={ tt:=TT,con:=[],frz:=[],rows:=[],live:=[],n:=12,pin:=0,nils:=[] }
noncomputable def Zbd.fn:D.Fn:={ body:=Tryz.f104.body.getD .skip,res:=Tryz.f104.results.toList,ins:=[.one (.v (.int .i64)),.one (.v (.int .i64))],outs:=[.one (.v (.int .i64))] }
def Zbd.enc (y:lsd (flats Zbd.fn.outs)×lsd (ios Zbd.fn.ins)):Int:=y.1.1
noncomputable def Zbd.f (a0:Int) (a1:Int):Option Int:=denF Zbd.E Zbd.fn Zbd.enc (a0,a1,())
theorem Zbd.f_eq (a0:Int) (a1:Int):Zbd.f a0 a1=if a1=0 then none else(if a1=0 then none else(some ((wrapI (((a0:Int).tmod a1)+a1):Int).tmod a1))):=by kernel_rfl
noncomputable def Zbd.con:Con:=⟨Zbd.fn.ins,Zbd.fn.outs,Int,fun x=>Zbd.f x.1 x.2.1,fun r=>((r,()),(()))⟩
theorem Zbd.valid:Valid Tryz.prog 104 Zbd.con:=fnV Zbd.fn Zbd.E Zbd.enc ⟨ttOk,Zap⟩ Tryz.func104
end Go.Proofs.YthmcpmnhdbeahaaGreat.P
namespace Go.Proofs.YthmcpmnhdbeahaaGreat.P
open Go Go.RowKit Go.Proofs.YthmcpmnhdbeahaaGreat.D
noncomputable def Zo.E:Env:={ tt:=TT,con:=[(104,Zbd.con)],frz:=[],rows:=[],live:=[(3,[0,1,4,5,6]),(7,[0,1,4,5,6,7,8])],n:=75,pin:=0,nils:=[] }
noncomputable def Zo.fn:D.Fn:={ body:=Tryz.f287.body.getD .skip,res:=Tryz.f287.results.toList,ins:=[.one (.v (.int .i64)),.one (.v (.int .i64))],outs:=[.agg [.own 27 true (.sl 2 (.int .i64))]] }
def Zo.enc (y:lsd (flats Zo.fn.outs)×lsd (ios Zo.fn.ins)):(List (List Int)):=y.1.1
noncomputable def Zo.f (a0:Int) (a1:Int):Option (List (List Int)):=denF Zo.E Zo.fn Zo.enc (a0,a1,())
noncomputable def Zo.l0 (x0:Int) (x1:Int) (x6:Int) (r2:List (List Int)):Option (List (List Int)):=denAt Zo.E Zo.fn Zo.enc [1,1,0,1,0] { fr:=[(0,.lf (.int .i64 x0)),(1,.lf (.int .i64 x1)),(4,.lf (.box 0 0)),(5,.lf (.box 1 0)),(6,.lf (.int .i64 x6))],ob:=[(0,.box 26 false [.nil]),(1,.box 26 false [.own 2]),(2,.row 27 true (.sl 2 (.int .i64)) r2)],nx:=3 }
noncomputable def Zo.l1 (x0:Int) (x1:Int) (x6:Int) (x8:Int) (r2:List Int) (r3:List (List Int)):Option (List (List Int)):=denAt Zo.E Zo.fn Zo.enc [1,1,0,1,0,0,1,0,0,1,0,1,0] { fr:=[(0,.lf (.int .i64 x0)),(1,.lf (.int .i64 x1)),(4,.lf (.box 0 0)),(5,.lf (.box 1 0)),(6,.lf (.int .i64 x6)),(7,.lf (.own 2)),(8,.lf (.int .i64 x8))],ob:=[(0,.box 26 false [.nil]),(1,.box 26 false [.own 3]),(2,.row 2 true (.int .i64) r2),(3,.row 27 true (.sl 2 (.int .i64)) r3)],nx:=4 }
theorem Zo.f_eq (a0:Int) (a1:Int):Zo.f a0 a1=Zo.l0 a0 a1 0 ([]:List (List Int)):=by kernel_rfl
theorem Zo.l0_eq (x0:Int) (x1:Int) (x6:Int) (r2:List (List Int)):Zo.l0 x0 x1 x6 r2=if x6 < (wrapI (2*x0))then(Zo.l1 x0 x1 x6 0 ([]:List Int) r2)else(some r2):=(Zt _ _ _ _).trans (by kernel_rfl)
theorem Zo.l1_eq (x0:Int) (x1:Int) (x6:Int) (x8:Int) (r2:List Int) (r3:List (List Int)):Zo.l1 x0 x1 x6 x8 r2 r3=if x8 < (wrapI (2*x0))then(if x0=0 then none else(if x0=0 then none else(if x0=0 then none else(if x0=0 then none else(if(wrapI ((x8:Int).tdiv x0))=1 then((Zbd.f (wrapI ((wrapI (((x8:Int).tmod x0) - ((x6:Int).tmod x0)))+(wrapI ((wrapI (x1*(wrapI ((x6:Int).tdiv x0))))*(wrapI ((x8:Int).tdiv x0)))))) x0).bind fun t64=>if r2.length+([wrapI ((wrapI (x0*((wrapI ((wrapI ((x6:Int).tdiv x0))+(wrapI ((x8:Int).tdiv x0))):Int).tmod 2)))+t64)]:List Int).length≤17592186044416 then(Zo.l1 x0 x1 x6 (wrapI (x8+1)) (r2++([wrapI ((wrapI (x0*((wrapI ((wrapI ((x6:Int).tdiv x0))+(wrapI ((x8:Int).tdiv x0))):Int).tmod 2)))+t64)]:List Int)) r3)else none)else((Zbd.f (wrapI ((wrapI (((x6:Int).tmod x0)+((x8:Int).tmod x0)))+(wrapI ((wrapI (x1*(wrapI ((x6:Int).tdiv x0))))*(wrapI ((x8:Int).tdiv x0)))))) x0).bind fun t64=>if r2.length+([wrapI ((wrapI (x0*((wrapI ((wrapI ((x6:Int).tdiv x0))+(wrapI ((x8:Int).tdiv x0))):Int).tmod 2)))+t64)]:List Int).length≤17592186044416 then(Zo.l1 x0 x1 x6 (wrapI (x8+1)) (r2++([wrapI ((wrapI (x0*((wrapI ((wrapI ((x6:Int).tdiv x0))+(wrapI ((x8:Int).tdiv x0))):Int).tmod 2)))+t64)]:List Int)) r3)else none))))))else(if r3.length+([r2]:List (List Int)).length≤5864062014805 then(Zo.l0 x0 x1 (wrapI (x6+1)) (r3++([r2]:List (List Int))))else none):=(Zt _ _ _ _).trans (by kernel_rfl)
noncomputable def Zo.con:Con:=⟨Zo.fn.ins,Zo.fn.outs,(List (List Int)),fun x=>Zo.f x.1 x.2.1,fun r=>((r,()),(()))⟩
theorem Zo.valid:Valid Tryz.prog 287 Zo.con:=fnV Zo.fn Zo.E Zo.enc ⟨ttOk,(Ze Zbd.valid Zap)⟩ Tryz.func287
end Go.Proofs.YthmcpmnhdbeahaaGreat.P
namespace Go.Proofs.YthmcpmnhdbeahaaGreat.P
open Go Go.RowKit Go.Proofs.YthmcpmnhdbeahaaGreat.D
noncomputable def Zaj.E:Env:={ tt:=TT,con:=[(285,ZA.con),(286,Zv.con),(287,Zo.con)],frz:=[],rows:=[],live:=[],n:=57,pin:=0,nils:=[] }
noncomputable def Zaj.fn:D.Fn:={ body:=Tryz.f252.body.getD .skip,res:=Tryz.f252.results.toList,ins:=[.one (.v .str)],outs:=[.agg [.own 27 true (.sl 2 (.int .i64))],.one (.v .bool)] }
def Zaj.enc (y:lsd (flats Zaj.fn.outs)×lsd (ios Zaj.fn.ins)):(List (List Int))×Bool:=(y.1.1,y.1.2.1)
noncomputable def Zaj.f (a0:ByteArray):Option ((List (List Int))×Bool):=denF Zaj.E Zaj.fn Zaj.enc (a0,())
theorem Zaj.f_eq (a0:ByteArray):Zaj.f a0=(ZA.f 2).bind fun t5=>if a0=(⟨#[107,108,101,105,110]⟩:ByteArray)then((Zv.f t5 t5).bind fun t11=>some (t11,true))else(if a0=(⟨#[99,117,98,101]⟩:ByteArray)then((Zv.f t5 t5).bind fun t17=>(Zv.f t5 t17).bind fun t18=>some (t18,true))else(if a0=(⟨#[99,50,99,52]⟩:ByteArray)then((ZA.f 4).bind fun t22=>(Zv.f t5 t22).bind fun t23=>some (t23,true))else(if a0=(⟨#[115,51]⟩:ByteArray)then((Zo.f 3 0).bind fun t26=>some (t26,true))else(if a0=(⟨#[100,105,104,101,100,114,97,108]⟩:ByteArray)then((Zo.f 4 0).bind fun t29=>some (t29,true))else(if a0=(⟨#[113,117,97,116,101,114,110,105,111,110]⟩:ByteArray)then((Zo.f 4 2).bind fun t32=>some (t32,true))else(if(a0.size:Int)=2 then(if 0 < (a0.size:Int)then(if(Zdn a0 0)=99 then(if 1 < (a0.size:Int)then(if(Zdn a0 1)≥49 then(if 1 < (a0.size:Int)then(if(Zdn a0 1)≤56 then(if 1 < (a0.size:Int)then((ZA.f (wrapI (wr .u8 ((Zdn a0 1) - 48)))).bind fun t55=>some (t55,true))else none)else(some (([]:List (List Int)),false)))else none)else(some (([]:List (List Int)),false)))else none)else(some (([]:List (List Int)),false)))else none)else(some (([]:List (List Int)),false)))))))):=by kernel_rfl
noncomputable def Zaj.con:Con:=⟨Zaj.fn.ins,Zaj.fn.outs,(List (List Int))×Bool,fun x=>Zaj.f x.1,fun r=>((r.1,r.2,()),(()))⟩
theorem Zaj.valid:Valid Tryz.prog 252 Zaj.con:=fnV Zaj.fn Zaj.E Zaj.enc ⟨ttOk,(Ze ZA.valid (Ze Zv.valid (Ze Zo.valid Zap)))⟩ Tryz.func252
end Go.Proofs.YthmcpmnhdbeahaaGreat.P
namespace Go.Proofs.YthmcpmnhdbeahaaGreat.P
open Go Go.RowKit Go.Proofs.YthmcpmnhdbeahaaGreat.D
noncomputable def Zi.E:Env:={ tt:=TT,con:=[(232,Zat.con),(91,Zay.con)],frz:=[],rows:=[],live:=[(3,[1,2,4,5,6]),(7,[1,2,4,5,6,7,8])],n:=49,pin:=0,nils:=[] }
noncomputable def Zi.fn:D.Fn:={ body:=Tryz.f253.body.getD .skip,res:=Tryz.f253.results.toList,ins:=[.agg [.v (.sl 27 (.sl 2 (.int .i64)))],.one (.v (.sl 2 (.int .i64)))],outs:=[.agg [.own 27 true (.sl 2 (.int .i64))]] }
def Zi.enc (y:lsd (flats Zi.fn.outs)×lsd (ios Zi.fn.ins)):(List (List Int)):=y.1.1
noncomputable def Zi.f (l0_0:List (List Int)) (l1:List Int):Option (List (List Int)):=denF Zi.E Zi.fn Zi.enc (l0_0,l1,())
noncomputable def Zi.l0 (x1:List Int) (x6:Int) (b0_0:List (List Int)) (r3:List (List Int)):Option (List (List Int)):=denAt Zi.E Zi.fn Zi.enc [1,1,0,1,0] { fr:=[(1,.lf (.sl (.int .i64) x1)),(2,.lf (.box 0 0)),(4,.lf (.box 1 0)),(5,.lf (.box 2 0)),(6,.lf (.int .i64 x6))],ob:=[(0,.box 26 false [.sl (.sl 2 (.int .i64)) b0_0]),(1,.box 26 false [.nil]),(2,.box 26 false [.own 3]),(3,.row 27 true (.sl 2 (.int .i64)) r3)],nx:=4 }
noncomputable def Zi.l1 (x1:List Int) (x6:Int) (x8:Int) (b0_0:List (List Int)) (r3:List Int) (r4:List (List Int)) (h4:Int):Option (List (List Int)):=denAt Zi.E Zi.fn Zi.enc [1,1,0,1,0,0,1,0,0,1,1,0] { fr:=[(1,.lf (.sl (.int .i64) x1)),(2,.lf (.box 0 0)),(4,.lf (.box 1 0)),(5,.lf (.box 2 0)),(6,.lf (.int .i64 x6)),(7,.lf (.own 3)),(8,.lf (.int .i64 x8))],ob:=[(0,.box 26 false [.sl (.sl 2 (.int .i64)) b0_0]),(1,.box 26 false [.nil]),(2,.box 26 false [.own 4]),(3,.row 2 true (.int .i64) r3),(4,.hole 27 (.sl 2 (.int .i64)) r4 (h4:Int).toNat 3)],nx:=5 }
theorem Zi.f_eq (l0_0:List (List Int)) (l1:List Int):Zi.f l0_0 l1=(Zat.f l0_0).bind fun t10=>Zi.l0 l1 0 l0_0 t10:=by kernel_rfl
theorem Zi.l0_eq (x1:List Int) (x6:Int) (b0_0:List (List Int)) (r3:List (List Int)):Zi.l0 x1 x6 b0_0 r3=(Zay.f b0_0).bind fun t13=>if x6 < t13 then(if 0≤x6 then(if x6 < (x1.length:Int)then(if 0≤rd x1 x6 then(if rd x1 x6 < (r3.length:Int)then(if 0≤rd x1 x6 then(if rd x1 x6 < (r3.length:Int)then(Zi.l1 x1 x6 0 b0_0 (row r3 (rd x1 x6)) r3 (rd x1 x6))else none)else none)else none)else none)else none)else none)else(some r3):=(Zt _ _ _ _).trans (by kernel_rfl)
theorem Zi.l1_eq (x1:List Int) (x6:Int) (x8:Int) (b0_0:List (List Int)) (r3:List Int) (r4:List (List Int)) (h4:Int):Zi.l1 x1 x6 x8 b0_0 r3 r4 h4=(Zay.f b0_0).bind fun t27=>if x8 < t27 then(if 0≤x8 then(if x8 < (x1.length:Int)then(if 0≤x6 then(if x6 < (b0_0.length:Int)then(if 0≤x8 then(if x8 < ((row b0_0 x6).length:Int)then(if 0≤T b0_0 x6 x8 then(if T b0_0 x6 x8 < (x1.length:Int)then(if 0≤rd x1 x8 then(if rd x1 x8 < (r3.length:Int)then(if 0≤rd x1 x8 then(if rd x1 x8 < (r3.length:Int)then(Zi.l1 x1 x6 (wrapI (x8+1)) b0_0 (r3.set (rd x1 x8:Int).toNat (rd x1 (T b0_0 x6 x8))) r4 h4)else none)else none)else none)else none)else none)else none)else none)else none)else none)else none)else none)else none)else(Zi.l0 x1 (wrapI (x6+1)) b0_0 (r4.set (h4:Int).toNat r3)):=(Zt _ _ _ _).trans (by kernel_rfl)
noncomputable def Zi.con:Con:=⟨Zi.fn.ins,Zi.fn.outs,(List (List Int)),fun x=>Zi.f x.1 x.2.1,fun r=>((r,()),(()))⟩
theorem Zi.valid:Valid Tryz.prog 253 Zi.con:=fnV Zi.fn Zi.E Zi.enc ⟨ttOk,(Ze Zat.valid (Ze Zay.valid Zap))⟩ Tryz.func253
end Go.Proofs.YthmcpmnhdbeahaaGreat.P
namespace Go.Proofs.YthmcpmnhdbeahaaGreat.P
open Go Go.RowKit Go.Proofs.YthmcpmnhdbeahaaGreat.D
noncomputable def ZL.E:Env:={ tt:=TT,con:=[(174,ZZ.con),(184,ZaF.con)],frz:=[8,28],rows:=[],live:=[(3,[0,1,5,6])],n:=30,pin:=1,nils:=[] }
noncomputable def ZL.fn:D.Fn:={ body:=Tryz.f288.body.getD .skip,res:=Tryz.f288.results.toList,ins:=[.ptr false 143 [.v (.sl 5 (.int .u8)),.v (.int .i64),.v (.int .u64)],.one (.v (.int .i64))],outs:=[.one (.v (.sl 2 (.int .i64)))] }
def ZL.enc (y:lsd (flats ZL.fn.outs)×lsd (ios ZL.fn.ins)):(List Int)×(List Int)×Int×Int:=(y.1.1,y.2.1,y.2.2.1,y.2.2.2.1)
noncomputable def ZL.f (l0_0:List Int) (a0_1:Int) (a0_2:Int) (a1:Int):Option ((List Int)×(List Int)×Int×Int):=denF ZL.E ZL.fn ZL.enc (l0_0,a0_1,a0_2,a1,())
noncomputable def ZL.l0 (x1:Int) (x5:List Int) (x6:Int) (b0_0:List Int) (b0_1:Int) (b0_2:Int):Option ((List Int)×(List Int)×Int×Int):=denAt ZL.E ZL.fn ZL.enc [1,1,0,1,0] { fr:=[(0,.lf (.box 0 0)),(1,.lf (.int .i64 x1)),(5,.lf (.sl (.int .i64) x5)),(6,.lf (.int .i64 x6))],ob:=[(0,.box 143 false [.sl (.int .u8) b0_0,.int .i64 b0_1,.int .u64 b0_2])],nx:=1 }
theorem ZL.f_eq (l0_0:List Int) (a0_1:Int) (a0_2:Int) (a1:Int):ZL.f l0_0 a0_1 a0_2 a1=ZL.l0 a1 ([]:List Int) 0 l0_0 a0_1 a0_2:=by kernel_rfl
theorem ZL.l0_eq (x1:Int) (x5:List Int) (x6:Int) (b0_0:List Int) (b0_1:Int) (b0_2:Int):ZL.l0 x1 x5 x6 b0_0 b0_1 b0_2=if x6 < x1 then((ZZ.f b0_0 b0_1 b0_2 (wrapI (x6+1))).bind fun t17=>if 0≤t17.1 then(if t17.1≤(x5.length:Int)then((ZaF.f (x5.take (t17.1:Int).toNat)).bind fun t21=>if t21.length+([x6]:List Int).length≤17592186044416 then(if 0≤t17.1 then(if t17.1≤(x5.length:Int)then(if(t21++([x6]:List Int)).length+(x5.drop (t17.1:Int).toNat).length≤17592186044416 then(ZL.l0 x1 ((t21++([x6]:List Int))++(x5.drop (t17.1:Int).toNat)) (wrapI (x6+1)) t17.2.1 t17.2.2.1 t17.2.2.2)else none)else none)else none)else none)else none)else none)else(some (x5,b0_0,b0_1,b0_2)):=(Zt _ _ _ _).trans (by kernel_rfl)
noncomputable def ZL.con:Con:=⟨ZL.fn.ins,ZL.fn.outs,(List Int)×(List Int)×Int×Int,fun x=>ZL.f x.1 x.2.1 x.2.2.1 x.2.2.2.1,fun r=>((r.1,()),(r.2.1,r.2.2.1,r.2.2.2,()))⟩
theorem ZL.valid:Valid Tryz.prog 288 ZL.con:=fnV ZL.fn ZL.E ZL.enc ⟨ttOk,(Ze ZZ.valid (Ze ZaF.valid Zap))⟩ Tryz.func288
end Go.Proofs.YthmcpmnhdbeahaaGreat.P
namespace Go.Proofs.YthmcpmnhdbeahaaGreat.P
open Go Go.RowKit Go.Proofs.YthmcpmnhdbeahaaGreat.D
noncomputable def Zx.E:Env:={ tt:=TT,con:=[(288,ZL.con)],frz:=[],rows:=[],live:=[(3,[5,6,7])],n:=28,pin:=1,nils:=[] }
noncomputable def Zx.fn:D.Fn:={ body:=Tryz.f254.body.getD .skip,res:=Tryz.f254.results.toList,ins:=[.ptr false 143 [.v (.sl 5 (.int .u8)),.v (.int .i64),.v (.int .u64)],.one (.v (.int .i64))],outs:=[.one (.own 2 true (.int .i64))] }
def Zx.enc (y:lsd (flats Zx.fn.outs)×lsd (ios Zx.fn.ins)):(List Int)×(List Int)×Int×Int:=(y.1.1,y.2.1,y.2.2.1,y.2.2.2.1)
noncomputable def Zx.f (l0_0:List Int) (a0_1:Int) (a0_2:Int) (a1:Int):Option ((List Int)×(List Int)×Int×Int):=denF Zx.E Zx.fn Zx.enc (l0_0,a0_1,a0_2,a1,())
noncomputable def Zx.l0 (x5:List Int) (x7:Int) (b0_0:List Int) (b0_1:Int) (b0_2:Int) (r1:List Int):Option ((List Int)×(List Int)×Int×Int):=denAt Zx.E Zx.fn Zx.enc [1,1,0,1,0] { fr:=[(5,.lf (.sl (.int .i64) x5)),(6,.lf (.own 1)),(7,.lf (.int .i64 x7))],ob:=[(0,.box 143 false [.sl (.int .u8) b0_0,.int .i64 b0_1,.int .u64 b0_2]),(1,.row 2 true (.int .i64) r1)],nx:=2 }
theorem Zx.f_eq (l0_0:List Int) (a0_1:Int) (a0_2:Int) (a1:Int):Zx.f l0_0 a0_1 a0_2 a1=(ZL.f l0_0 a0_1 a0_2 (wrapI (a1 - 1))).bind fun t11=>Zx.l0 t11.1 0 t11.2.1 t11.2.2.1 t11.2.2.2 ([0]:List Int):=by kernel_rfl
theorem Zx.l0_eq (x5:List Int) (x7:Int) (b0_0:List Int) (b0_1:Int) (b0_2:Int) (r1:List Int):Zx.l0 x5 x7 b0_0 b0_1 b0_2 r1=if x7 < (x5.length:Int)then(if 0≤x7 then(if x7 < (x5.length:Int)then(if r1.length+([wrapI ((rd x5 x7)+1)]:List Int).length≤17592186044416 then(Zx.l0 x5 (wrapI (x7+1)) b0_0 b0_1 b0_2 (r1++([wrapI ((rd x5 x7)+1)]:List Int)))else none)else none)else none)else(some (r1,b0_0,b0_1,b0_2)):=(Zt _ _ _ _).trans (by kernel_rfl)
noncomputable def Zx.con:Con:=⟨Zx.fn.ins,Zx.fn.outs,(List Int)×(List Int)×Int×Int,fun x=>Zx.f x.1 x.2.1 x.2.2.1 x.2.2.2.1,fun r=>((r.1,()),(r.2.1,r.2.2.1,r.2.2.2,()))⟩
theorem Zx.valid:Valid Tryz.prog 254 Zx.con:=fnV Zx.fn Zx.E Zx.enc ⟨ttOk,(Ze ZL.valid Zap)⟩ Tryz.func254
end Go.Proofs.YthmcpmnhdbeahaaGreat.P
namespace Go.Proofs.YthmcpmnhdbeahaaGreat.P
open Go Go.RowKit Go.Proofs.YthmcpmnhdbeahaaGreat.D
noncomputable def Za2.E:Env:={ tt:=TT,con:=[],frz:=[],rows:=[],live:=[],n:=2,pin:=0,nils:=[] }
noncomputable def Za2.fn:D.Fn:={ body:=Tryz.f268.body.getD .skip,res:=Tryz.f268.results.toList,ins:=[],outs:=[.one (.own 9 true .str)] }
def Za2.enc (y:lsd (flats Za2.fn.outs)×lsd (ios Za2.fn.ins)):(List ByteArray):=y.1.1
noncomputable def Za2.f:Option (List ByteArray):=denF Za2.E Za2.fn Za2.enc (())
theorem Za2.f_eq:Za2.f=some ([(⟨#[99,49]⟩:ByteArray),(⟨#[99,50]⟩:ByteArray),(⟨#[99,51]⟩:ByteArray),(⟨#[99,52]⟩:ByteArray),(⟨#[99,53]⟩:ByteArray),(⟨#[99,54]⟩:ByteArray),(⟨#[99,55]⟩:ByteArray),(⟨#[99,56]⟩:ByteArray),(⟨#[107,108,101,105,110]⟩:ByteArray),(⟨#[115,51]⟩:ByteArray),(⟨#[99,50,99,52]⟩:ByteArray),(⟨#[99,117,98,101]⟩:ByteArray),(⟨#[100,105,104,101,100,114,97,108]⟩:ByteArray),(⟨#[113,117,97,116,101,114,110,105,111,110]⟩:ByteArray)]:List ByteArray):=by kernel_rfl
noncomputable def Za2.con:Con:=⟨Za2.fn.ins,Za2.fn.outs,(List ByteArray),fun x=>Za2.f,fun r=>((r,()),(()))⟩
theorem Za2.valid:Valid Tryz.prog 268 Za2.con:=fnV Za2.fn Za2.E Za2.enc ⟨ttOk,Zap⟩ Tryz.func268
end Go.Proofs.YthmcpmnhdbeahaaGreat.P
namespace Go.Proofs.YthmcpmnhdbeahaaGreat.P
open Go Go.RowKit Go.Proofs.YthmcpmnhdbeahaaGreat.D
noncomputable def Za7.E:Env:={ tt:=TT,con:=[(268,Za2.con),(174,ZZ.con),(252,Zaj.con),(91,Zay.con),(254,Zx.con),(253,Zi.con)],frz:=[],rows:=[],live:=[],n:=28,pin:=1,nils:=[] }
noncomputable def Za7.fn:D.Fn:={ body:=Tryz.f230.body.getD .skip,res:=Tryz.f230.results.toList,ins:=[.ptr false 143 [.v (.sl 5 (.int .u8)),.v (.int .i64),.v (.int .u64)]],outs:=[.agg [.own 27 true (.sl 2 (.int .i64))]] }
def Za7.enc (y:lsd (flats Za7.fn.outs)×lsd (ios Za7.fn.ins)):(List (List Int))×(List Int)×Int×Int:=(y.1.1,y.2.1,y.2.2.1,y.2.2.2.1)
noncomputable def Za7.f (l0_0:List Int) (a0_1:Int) (a0_2:Int):Option ((List (List Int))×(List Int)×Int×Int):=denF Za7.E Za7.fn Za7.enc (l0_0,a0_1,a0_2,())
theorem Za7.f_eq (l0_0:List Int) (a0_1:Int) (a0_2:Int):Za7.f l0_0 a0_1 a0_2=(Za2.f).bind fun t6=>(ZZ.f l0_0 a0_1 a0_2 (t6.length:Int)).bind fun t12=>if 0≤t12.1 then(if t12.1 < (t6.length:Int)then(if 0≤t12.1 then(if t12.1 < (t6.length:Int)then((Zaj.f (Ty.rd .str t6 t12.1)).bind fun t15=>(ZZ.f t12.2.1 t12.2.2.1 t12.2.2.2 2).bind fun t19=>if t19.1=0 then(some (t15.1,t19.2.1,t19.2.2.1,t19.2.2.2))else((Zay.f t15.1).bind fun t25=>(Zx.f t19.2.1 t19.2.2.1 t19.2.2.2 t25).bind fun t26=>(Zi.f t15.1 t26.1).bind fun t27=>some (t27,t26.2.1,t26.2.2.1,t26.2.2.2)))else none)else none)else none)else none:=by kernel_rfl
noncomputable def Za7.con:Con:=⟨Za7.fn.ins,Za7.fn.outs,(List (List Int))×(List Int)×Int×Int,fun x=>Za7.f x.1 x.2.1 x.2.2.1,fun r=>((r.1,()),(r.2.1,r.2.2.1,r.2.2.2,()))⟩
theorem Za7.valid:Valid Tryz.prog 230 Za7.con:=fnV Za7.fn Za7.E Za7.enc ⟨ttOk,(Ze Za2.valid (Ze ZZ.valid (Ze Zaj.valid (Ze Zay.valid (Ze Zx.valid (Ze Zi.valid Zap))))))⟩ Tryz.func230
end Go.Proofs.YthmcpmnhdbeahaaGreat.P
namespace Go.Proofs.YthmcpmnhdbeahaaGreat.P
open Go Go.RowKit Go.Proofs.YthmcpmnhdbeahaaGreat.D
noncomputable def ZaT.E:Env:={ tt:=TT,con:=[(230,Za7.con),(170,Zbf.con)],frz:=[5],rows:=[],live:=[],n:=7,pin:=1,nils:=[] }
noncomputable def ZaT.fn:D.Fn:={ body:=Tryz.f196.body.getD .skip,res:=Tryz.f196.results.toList,ins:=[.ptr false 143 [.v (.sl 5 (.int .u8)),.v (.int .i64),.v (.int .u64)]],outs:=[.agg [.v (.sl 27 (.sl 2 (.int .i64)))]] }
def ZaT.enc (y:lsd (flats ZaT.fn.outs)×lsd (ios ZaT.fn.ins)):(List (List Int))×(List Int)×Int×Int:=(y.1.1,y.2.1,y.2.2.1,y.2.2.2.1)
noncomputable def ZaT.f (l0_0:List Int) (a0_1:Int) (a0_2:Int):Option ((List (List Int))×(List Int)×Int×Int):=denF ZaT.E ZaT.fn ZaT.enc (l0_0,a0_1,a0_2,())
theorem ZaT.f_eq (l0_0:List Int) (a0_1:Int) (a0_2:Int):ZaT.f l0_0 a0_1 a0_2=(Za7.f l0_0 a0_1 a0_2).bind fun t5=>(Zbf.f t5.2.1 t5.2.2.1 t5.2.2.2 t5.1).bind fun t6=>some (t6.1,t6.2.1,t6.2.2.1,t6.2.2.2):=by kernel_rfl
noncomputable def ZaT.con:Con:=⟨ZaT.fn.ins,ZaT.fn.outs,(List (List Int))×(List Int)×Int×Int,fun x=>ZaT.f x.1 x.2.1 x.2.2.1,fun r=>((r.1,()),(r.2.1,r.2.2.1,r.2.2.2,()))⟩
theorem ZaT.valid:Valid Tryz.prog 196 ZaT.con:=fnV ZaT.fn ZaT.E ZaT.enc ⟨ttOk,(Ze Za7.valid (Ze Zbf.valid Zap))⟩ Tryz.func196
end Go.Proofs.YthmcpmnhdbeahaaGreat.P
namespace Go.Proofs.YthmcpmnhdbeahaaGreat.P
open Go Go.RowKit Go.Proofs.YthmcpmnhdbeahaaGreat.D
noncomputable def Za5.E:Env:={ tt:=TT,con:=[],frz:=[],rows:=[],live:=[],n:=15,pin:=0,nils:=[] }
noncomputable def Za5.fn:D.Fn:={ body:=Tryz.f103.body.getD .skip,res:=Tryz.f103.results.toList,ins:=[.one (.v (.int .i64)),.one (.v (.int .i64)),.one (.v (.int .i64))],outs:=[.one (.v .bool)] }
def Za5.enc (y:lsd (flats Za5.fn.outs)×lsd (ios Za5.fn.ins)):Bool:=y.1.1
noncomputable def Za5.f (a0:Int) (a1:Int) (a2:Int):Option Bool:=denF Za5.E Za5.fn Za5.enc (a0,a1,a2,())
theorem Za5.f_eq (a0:Int) (a1:Int) (a2:Int):Za5.f a0 a1 a2=if a0≥a1 then(some (decide (a0≤a2)))else(some false):=by kernel_rfl
noncomputable def Za5.con:Con:=⟨Za5.fn.ins,Za5.fn.outs,Bool,fun x=>Za5.f x.1 x.2.1 x.2.2.1,fun r=>((r,()),(()))⟩
theorem Za5.valid:Valid Tryz.prog 103 Za5.con:=fnV Za5.fn Za5.E Za5.enc ⟨ttOk,Zap⟩ Tryz.func103
end Go.Proofs.YthmcpmnhdbeahaaGreat.P
namespace Go.Proofs.YthmcpmnhdbeahaaGreat.P
open Go Go.RowKit Go.Proofs.YthmcpmnhdbeahaaGreat.D
noncomputable def Zj.E:Env:={ tt:=TT,con:=[(103,Za5.con)],frz:=[],rows:=[],live:=[(5,[1,3,4]),(10,[1,3,4,5]),(15,[1,3,6]),(21,[1,3,6,7,8]),(25,[1,3,6,7,8,9])],n:=137,pin:=0,nils:=[7] }
noncomputable def Zj.fn:D.Fn:={ body:=Tryz.f109.body.getD .skip,res:=Tryz.f109.results.toList,ins:=[.agg [.v (.sl 27 (.sl 2 (.int .i64)))]],outs:=[.one (.v .bool)] }
def Zj.enc (y:lsd (flats Zj.fn.outs)×lsd (ios Zj.fn.ins)):Bool:=y.1.1
noncomputable def Zj.f (l0_0:List (List Int)):Option Bool:=denF Zj.E Zj.fn Zj.enc (l0_0,())
noncomputable def Zj.l0 (x3:Int) (x4:Int) (b0_0:List (List Int)):Option Bool:=denAt Zj.E Zj.fn Zj.enc [1,1,1,0,1,0] { fr:=[(1,.lf (.box 0 0)),(3,.lf (.int .i64 x3)),(4,.lf (.int .i64 x4))],ob:=[(0,.box 26 false [.sl (.sl 2 (.int .i64)) b0_0])],nx:=1 }
noncomputable def Zj.l1 (x3:Int) (x4:Int) (x5:Int) (b0_0:List (List Int)):Option Bool:=denAt Zj.E Zj.fn Zj.enc [1,1,1,0,1,0,0,1,0,0,1,1,0] { fr:=[(1,.lf (.box 0 0)),(3,.lf (.int .i64 x3)),(4,.lf (.int .i64 x4)),(5,.lf (.int .i64 x5))],ob:=[(0,.box 26 false [.sl (.sl 2 (.int .i64)) b0_0])],nx:=1 }
noncomputable def Zj.l2 (x3:Int) (x6:Int) (b0_0:List (List Int)):Option Bool:=denAt Zj.E Zj.fn Zj.enc [1,1,1,1,0,1,0] { fr:=[(1,.lf (.box 0 0)),(3,.lf (.int .i64 x3)),(6,.lf (.int .i64 x6))],ob:=[(0,.box 26 false [.sl (.sl 2 (.int .i64)) b0_0])],nx:=1 }
noncomputable def Zj.l3 (x3:Int) (x6:Int) (x7:Bool) (x8:Int) (b0_0:List (List Int)):Option Bool:=denAt Zj.E Zj.fn Zj.enc [1,1,1,1,0,1,0,0,1,0,0,1,1,0,1,0] { fr:=[(1,.lf (.box 0 0)),(3,.lf (.int .i64 x3)),(6,.lf (.int .i64 x6)),(7,.lf (Zhl x7)),(8,.lf (.int .i64 x8))],ob:=[(0,.box 26 false [.sl (.sl 2 (.int .i64)) b0_0])],nx:=1 }
noncomputable def Zj.l4 (x3:Int) (x6:Int) (x7:Bool) (x8:Int) (x9:Int) (b0_0:List (List Int)):Option Bool:=denAt Zj.E Zj.fn Zj.enc [1,1,1,1,0,1,0,0,1,0,0,1,1,0,1,0,0,1,0,0,1,1,0] { fr:=[(1,.lf (.box 0 0)),(3,.lf (.int .i64 x3)),(6,.lf (.int .i64 x6)),(7,.lf (Zhl x7)),(8,.lf (.int .i64 x8)),(9,.lf (.int .i64 x9))],ob:=[(0,.box 26 false [.sl (.sl 2 (.int .i64)) b0_0])],nx:=1 }
theorem Zj.f_eq (l0_0:List (List Int)):Zj.f l0_0=(Za5.f (l0_0.length:Int) 1 8).bind fun t14=>if t14=true then(Zj.l0 (l0_0.length:Int) 0 l0_0)else(some false):=by kernel_rfl
theorem Zj.l0_eq (x3:Int) (x4:Int) (b0_0:List (List Int)):Zj.l0 x3 x4 b0_0=if x4 < x3 then(if 0≤x4 then(if x4 < (b0_0.length:Int)then(if((row b0_0 x4).length:Int)=x3 then(Zj.l1 x3 x4 0 b0_0)else(some false))else none)else none)else(Zj.l2 x3 0 b0_0):=(Zt _ _ _ _).trans (by kernel_rfl)
theorem Zj.l1_eq (x3:Int) (x4:Int) (x5:Int) (b0_0:List (List Int)):Zj.l1 x3 x4 x5 b0_0=if x5 < x3 then(if 0≤x4 then(if x4 < (b0_0.length:Int)then(if 0≤x5 then(if x5 < ((row b0_0 x4).length:Int)then((Za5.f (T b0_0 x4 x5) 0 (wrapI (x3 - 1))).bind fun t44=>if t44=true then(Zj.l1 x3 x4 (wrapI (x5+1)) b0_0)else(some false))else none)else none)else none)else none)else(Zj.l0 x3 (wrapI (x4+1)) b0_0):=(Zt _ _ _ _).trans (by kernel_rfl)
theorem Zj.l2_eq (x3:Int) (x6:Int) (b0_0:List (List Int)):Zj.l2 x3 x6 b0_0=if x6 < x3 then(if 0 < (b0_0.length:Int)then(if 0≤x6 then(if x6 < ((row b0_0 0).length:Int)then(if(T b0_0 0 x6)=x6 then(if 0≤x6 then(if x6 < (b0_0.length:Int)then(if 0 < ((row b0_0 x6).length:Int)then(if(T b0_0 x6 0)=x6 then(Zj.l3 x3 x6 false 0 b0_0)else(some false))else none)else none)else none)else(some false))else none)else none)else none)else(some true):=(Zt _ _ _ _).trans (by kernel_rfl)
theorem Zj.l3_eq (x3:Int) (x6:Int) (x7:Bool) (x8:Int) (b0_0:List (List Int)):Zj.l3 x3 x6 x7 x8 b0_0=if x8 < x3 then(if x7=true then(Zj.l4 x3 x6 true x8 0 b0_0)else(if 0≤x6 then(if x6 < (b0_0.length:Int)then(if 0≤x8 then(if x8 < ((row b0_0 x6).length:Int)then(if(T b0_0 x6 x8)=0 then(if 0≤x8 then(if x8 < (b0_0.length:Int)then(if 0≤x6 then(if x6 < ((row b0_0 x8).length:Int)then(Zj.l4 x3 x6 (decide ((T b0_0 x8 x6)=0)) x8 0 b0_0)else none)else none)else none)else none)else(Zj.l4 x3 x6 false x8 0 b0_0))else none)else none)else none)else none))else(if x7=true then(Zj.l2 x3 (wrapI (x6+1)) b0_0)else(some false)):=(Zt _ _ _ _).trans (by kernel_rfl)
theorem Zj.l4_eq (x3:Int) (x6:Int) (x7:Bool) (x8:Int) (x9:Int) (b0_0:List (List Int)):Zj.l4 x3 x6 x7 x8 x9 b0_0=if x9 < x3 then(if 0≤x6 then(if x6 < (b0_0.length:Int)then(if 0≤x8 then(if x8 < ((row b0_0 x6).length:Int)then(if 0≤T b0_0 x6 x8 then(if T b0_0 x6 x8 < (b0_0.length:Int)then(if 0≤x9 then(if x9 < ((row b0_0 (T b0_0 x6 x8)).length:Int)then(if 0≤x6 then(if x6 < (b0_0.length:Int)then(if 0≤x8 then(if x8 < (b0_0.length:Int)then(if 0≤x9 then(if x9 < ((row b0_0 x8).length:Int)then(if 0≤T b0_0 x8 x9 then(if T b0_0 x8 x9 < ((row b0_0 x6).length:Int)then(if(T b0_0 (T b0_0 x6 x8) x9)=(T b0_0 x6 (T b0_0 x8 x9))then(Zj.l4 x3 x6 x7 x8 (wrapI (x9+1)) b0_0)else(some false))else none)else none)else none)else none)else none)else none)else none)else none)else none)else none)else none)else none)else none)else none)else none)else none)else(Zj.l3 x3 x6 x7 (wrapI (x8+1)) b0_0):=(Zt _ _ _ _).trans (by kernel_rfl)
noncomputable def Zj.con:Con:=⟨Zj.fn.ins,Zj.fn.outs,Bool,fun x=>Zj.f x.1,fun r=>((r,()),(()))⟩
theorem Zj.valid:Valid Tryz.prog 109 Zj.con:=fnV Zj.fn Zj.E Zj.enc ⟨ttOk,(Ze Za5.valid Zap)⟩ Tryz.func109
end Go.Proofs.YthmcpmnhdbeahaaGreat.P
namespace Go.Proofs.YthmcpmnhdbeahaaGreat.P
open Go Go.RowKit Go.Proofs.YthmcpmnhdbeahaaGreat.D
noncomputable def Zbh.E:Env:={ tt:=TT,con:=[(174,ZZ.con),(175,ZaS.con),(184,ZaF.con)],frz:=[13,32,43],rows:=[],live:=[],n:=44,pin:=1,nils:=[] }
noncomputable def Zbh.fn:D.Fn:={ body:=Tryz.f171.body.getD .skip,res:=Tryz.f171.results.toList,ins:=[.ptr false 143 [.v (.sl 5 (.int .u8)),.v (.int .i64),.v (.int .u64)],.agg [.v (.int .i64),.v (.sl 2 (.int .i64))]],outs:=[.agg [.v (.int .i64),.v (.sl 2 (.int .i64))]] }
def Zbh.enc (y:lsd (flats Zbh.fn.outs)×lsd (ios Zbh.fn.ins)):Int×(List Int)×(List Int)×Int×Int:=(y.1.1,y.1.2.1,y.2.1,y.2.2.1,y.2.2.2.1)
noncomputable def Zbh.f (l0_0:List Int) (a0_1:Int) (a0_2:Int) (a1_0:Int) (l1_1:List Int):Option (Int×(List Int)×(List Int)×Int×Int):=denF Zbh.E Zbh.fn Zbh.enc (l0_0,a0_1,a0_2,a1_0,l1_1,())
theorem Zbh.f_eq (l0_0:List Int) (a0_1:Int) (a0_2:Int) (a1_0:Int) (l1_1:List Int):Zbh.f l0_0 a0_1 a0_2 a1_0 l1_1=(ZZ.f l0_0 a0_1 a0_2 40).bind fun t6=>if t6.1=0 then((ZaS.f t6.2.1 t6.2.2.1 t6.2.2.2 ([1,13,wrapI (a1_0+1),0]:List Int)).bind fun t14=>some (t14.1,l1_1,t14.2.1,t14.2.2.1,t14.2.2.2))else(if t6.1=1 then((ZaF.f l1_1).bind fun t20=>(ZZ.f t6.2.1 t6.2.2.1 t6.2.2.2 (t20.length:Int)).bind fun t28=>(ZaS.f t28.2.1 t28.2.2.1 t28.2.2.2 ([0,-1,2,3,a1_0]:List Int)).bind fun t33=>if 0≤t28.1 then(if t28.1 < (t20.length:Int)then(if 0≤t28.1 then(if t28.1 < (t20.length:Int)then(some (a1_0,t20.set (t28.1:Int).toNat t33.1,t33.2.1,t33.2.2.1,t33.2.2.2))else none)else none)else none)else none)else(if t6.1=2 then((ZaF.f l1_1).bind fun t39=>if t39.length+([1]:List Int).length≤17592186044416 then(some (a1_0,t39++([1]:List Int),t6.2.1,t6.2.2.1,t6.2.2.2))else none)else(some (a1_0,l1_1,t6.2.1,t6.2.2.1,t6.2.2.2)))):=by kernel_rfl
noncomputable def Zbh.con:Con:=⟨Zbh.fn.ins,Zbh.fn.outs,Int×(List Int)×(List Int)×Int×Int,fun x=>Zbh.f x.1 x.2.1 x.2.2.1 x.2.2.2.1 x.2.2.2.2.1,fun r=>((r.1,r.2.1,()),(r.2.2.1,r.2.2.2.1,r.2.2.2.2,()))⟩
theorem Zbh.valid:Valid Tryz.prog 171 Zbh.con:=fnV Zbh.fn Zbh.E Zbh.enc ⟨ttOk,(Ze ZZ.valid (Ze ZaS.valid (Ze ZaF.valid Zap)))⟩ Tryz.func171
end Go.Proofs.YthmcpmnhdbeahaaGreat.P
namespace Go.Proofs.YthmcpmnhdbeahaaGreat.P
open Go Go.RowKit Go.Proofs.YthmcpmnhdbeahaaGreat.D
noncomputable def ZaB.E:Env:={ tt:=TT,con:=[],frz:=[],rows:=[],live:=[(1,[0,1])],n:=17,pin:=0,nils:=[] }
noncomputable def ZaB.fn:D.Fn:={ body:=Tryz.f183.body.getD .skip,res:=Tryz.f183.results.toList,ins:=[.one (.v (.int .i64)),.one (.v (.int .i64))],outs:=[.one (.v (.int .i64))] }
def ZaB.enc (y:lsd (flats ZaB.fn.outs)×lsd (ios ZaB.fn.ins)):Int:=y.1.1
noncomputable def ZaB.f (a0:Int) (a1:Int):Option Int:=denF ZaB.E ZaB.fn ZaB.enc (a0,a1,())
noncomputable def ZaB.l0 (x0:Int) (x1:Int):Option Int:=denAt ZaB.E ZaB.fn ZaB.enc [1,0,0] { fr:=[(0,.lf (.int .i64 x0)),(1,.lf (.int .i64 x1))],ob:=[],nx:=0 }
theorem ZaB.f_eq (a0:Int) (a1:Int):ZaB.f a0 a1=ZaB.l0 a0 a1:=by kernel_rfl
theorem ZaB.l0_eq (x0:Int) (x1:Int):ZaB.l0 x0 x1=if x1=0 then(some (if(wrapI (0 - x0)) > x0 then(wrapI (0 - x0))else x0))else(if x1=0 then none else(ZaB.l0 x1 ((x0:Int).tmod x1))):=(Zt _ _ _ _).trans (by kernel_rfl)
noncomputable def ZaB.con:Con:=⟨ZaB.fn.ins,ZaB.fn.outs,Int,fun x=>ZaB.f x.1 x.2.1,fun r=>((r,()),(()))⟩
theorem ZaB.valid:Valid Tryz.prog 183 ZaB.con:=fnV ZaB.fn ZaB.E ZaB.enc ⟨ttOk,Zap⟩ Tryz.func183
end Go.Proofs.YthmcpmnhdbeahaaGreat.P
namespace Go.Proofs.YthmcpmnhdbeahaaGreat.D
open Go Go.RowKit
theorem Zib {P:Program} {g:FuncId} {c:Con} (hv:Valid P g c) {x:lsd (flats c.ins)} {r:c.R} (hx:c.f x=some r) {w:World} {vs:List Value} (ha:ASRs P (fun _=>False) (fun k=>k < w.heap.size) w c.ins x vs (fun _=>False)) :
  Calls P g vs.toArray w fun e w' => ∃u,e = .returned u∧Below w.heap.size w w' ∧ ∃Z' Fo us,u=outV us∧ASRs P (fun _=>False) Z' w' c.outs (c.dec r).1 us Fo:=by
 refine(hv.2 x r hx (fun k=>k < w.heap.size) (fun _=>False) (fun _=>False) w vs ha (fun _ h=>h.elim) (fun _ h=>h) (fun _ h=>h.elim)).mono ?_
 rintro e w' ⟨u,rfl,Z', Fi,Fo,hp⟩
 obtain⟨us,hu,ho⟩:=hp.out
 exact⟨u,rfl,⟨hp.os,hp.tape,hp.output,hp.size,fun k hk=>hp.old k hk fun h=>h⟩,Z', Fo,us,hu,ho⟩
theorem ZkB {w:World} {a:Addr} {v:Value} (h:w.cell? a=some v):a.block < w.heap.size:=by
 unfold World.cell? at h
 cases hb:w.heap[a.block]? with
 | none=>rw[hb]at h;cases h
 | some o=>exact(Array.getElem?_eq_some_iff.1 hb).1
theorem Zkc {α : Type} {w:World} {sz:Nat} {R : α → List Value→Prop} {A:Option Addr} {c:Nat} {xs:List α} (hz:0 < sz) (hc:xs.length≤c) (hm:xs.length≤9223372036854775807)
  (h:0 < xs.length→∃ad,A=some ad∧∀(j:Nat) (p : α),xs[j]? = some p→∃cs,cs.length=sz∧R p cs∧∀(i:Nat) (u:Value),cs[i]? = some u→w.cell? (ad.add (j*sz+i))=some u):ZcG (fun k=>k < w.heap.size) w sz R A c xs:=by
 refine⟨hc,hm,fun hl => ?_⟩
 obtain⟨ad,rfl,hcell⟩:=h hl
 refine⟨ad,rfl,?_,hcell⟩
 obtain⟨cs,h1,h2,h3⟩:=hcell 0 xs[0] (List.getElem?_eq_getElem hl)
 have:=ZkB (h3 0 cs[0] (List.getElem?_eq_getElem (by omega)))
 rwa[ZcX]at this
theorem ZjR {P:Program} {g:FuncId} {c:Con} (hv:Valid P g c) {x:lsd (flats c.ins)} {r:c.R} (hx:c.f x=some r) {w:World} {vs:List Value} (ha:ASRs P (fun _=>False) (fun k=>k < w.heap.size) w c.ins x vs (fun _=>False)) (ho:c.outs=[.one (.v .bool)]) (hr:∀y:lsd (flats [.one (.v .bool)]),HEq y (c.dec r).1→y.1=true) :
  Calls P g vs.toArray w fun e w' => e = .returned (.bool true)∧Below w.heap.size w w' := by
 refine(Zib hv hx ha).mono ?_
 rintro e w' ⟨u,rfl,hb,Z', Fo,us,rfl,hh⟩
 refine⟨?_,hb⟩
 obtain⟨ins,outs,R,f,dec⟩:=c
 have ho:outs=[.one (.v .bool)]:=ho
 subst ho
 obtain⟨v,vs', F0,F1,rfl,h1,h2,_⟩:=hh
 cases h2
 have h1:[v]=[.bool (dec r).1.1]:=h1
 have hb1:(dec r).1.1=true:=hr _ HEq.rfl
 cases h1
 rw[hb1]
 rfl
end Go.Proofs.YthmcpmnhdbeahaaGreat.D
namespace Go.Proofs.YthmcpmnhdbeahaaGreat.D
open Go Go.RowKit Go.ChangeShapes Go.WideShapes Go.Joins Go.Deep
section
variable {H:Type} {enc:TypeId×Value→H} {P:Program} {w:World} {base:Nat} {held:Bool}
abbrev Zw (w:World):Nat→Prop:=fun k=>k < w.heap.size
abbrev No:Nat→Prop:=fun _=>False
theorem ZjY {q:TypeId} (hn:nf q=false) {k:IntKind} {a:Addr} {len cap:Nat} {zs:List Int} (hl:len≤cap) (hm:cap≤maxLen) (hz:zs.length=cap) (hc:∀i,i < zs.length→w.cell? (a.add i)=some (.int k (zs.getD i 0))) (hw:∀n∈zs,(Lit.int k n).wf=true) :
  ∃l:List Int,len=l.length∧l.length≤maxLen∧(∀x∈l,(Lit.int k x).wf=true)∧Rep (Zw w) w false (.sl q (.int k)) l [.slice (some a) len cap] No:=by
 have hlen:(zs.take len).length=len:=by rw[List.length_take];omega
 refine⟨zs.take len,hlen.symm,by omega,fun x hx=>hw x (List.mem_of_mem_take hx),some a,cap,by rw[hlen],?_,fun h=>by rw[hn]at h;cases h⟩
 refine Zkc Nat.one_pos (by show(zs.take len).length≤_;omega) (by show(zs.take len).length≤_;simp only[maxLen]at hm;omega) fun _=>⟨a,rfl,fun j p hj => ?_⟩
 have hj:(zs.take len)[j]? = some p:=hj
 have hjl:j < len:=by
  have:=(List.getElem?_eq_some_iff.1 hj).1
  omega
 refine⟨[.int k p],rfl,rfl,fun i u hu => ?_⟩
 cases i with
 | zero =>
  simp only[List.getElem?_cons_zero,Option.some.injEq]at hu
  subst hu
  have h:=hc j (by omega)
  have hp:zs.getD j 0=p:=by
   rw[List.getElem?_take]at hj
   simp only[hjl,if_true]at hj
   simp[List.getD,hj]
  rw[hp]at h
  simpa [Ty.size] using h
 | succ i=>simp at hu
theorem ZjZ {q:TypeId} {t:Ty}:Rep (Zw w) w false (.sl q t) ([]:List t.den) [.slice none 0 0] No :=
 ⟨none,0,rfl,⟨Nat.le_refl _,Nat.zero_le _,fun h=>absurd h (by simp)⟩,fun _ _=>rfl⟩
theorem Ziw {t e:TypeId} {k:IntKind} {fuel:Nat} {v:Value} {x:DataW H×List MemPlace} (ht:P.underlying t=some (.slice e)) (he:P.underlying e=some (.int k)) (hc:P.cellsOf e=1)
  (h:DataW.trod enc P w base (fun _=>true) held fuel t [v]=some x) (hn:nf e=false:=by rfl) :
  ∃l:List Int,l.length≤maxLen∧(∀x∈l,(Lit.int k x).wf=true)∧Rep (Zw w) w false (.sl e (.int k)) l [v] No:=by
 rcases open_ints ht he hc h with ⟨hcs,_⟩|⟨a,len,cap,zs,hcs,_,hl,hm,hz,_,hcell,hw⟩
 ·
  refine⟨[],by simp,by simp,?_⟩
  rw[hcs]
  exact ZjZ
 ·
  simp only[if_true]at hz
  obtain⟨l,h1,h2,h3,h4⟩:=ZjY (q:=e) hn hl hm hz hcell hw
  exact⟨l,h2,h3,by rw[hcs];exact h4⟩
theorem Zjx:ASRs P No (Zw w) w [] () [] No:=rfl
theorem Zjy {t:Ty} {x:t.den} {v:Value} {ins:List ASh} {y:lsd (flats ins)} {vs:List Value} (h:Rep (Zw w) w false t x [v] No) (hr:ASRs P No (Zw w) w ins y vs No):ASRs P No (Zw w) w (.one (.v t) :: ins) (x,y) (v :: vs) No :=
 ⟨v,vs,No,No,rfl,h,hr,fun _ h=>h,fun _ h=>h,fun _ h=>h.elim⟩
end
end Go.Proofs.YthmcpmnhdbeahaaGreat.D
namespace Go.Proofs.YthmcpmnhdbeahaaGreat.D
open Go Go.RowKit
theorem Zh9 {P:Program} {g:FuncId} {k k' : IntKind} {F:Int→Option Int} (hc:Callable P g) (h:∀(x y:Int) (w:World),F x=some y→Calls P g #[.int k x] w fun e w' => e = .returned (.int k' y)∧w' = w) :
  Valid P g ⟨[.one (.v (.int k))],[.one (.v (.int k'))],Int,fun x=>F x.1,fun r=>((r,()),())⟩:=by
 refine⟨hc,fun x r hx Z B S w vs ha hS hZ hB => ?_⟩
 obtain⟨v,vs', F0,F1,rfl,h1,h2,_⟩:=ha
 cases h2
 have h1:[v]=[.int k x.1]:=h1
 cases h1
 refine(h x.1 r w hx).mono ?_
 rintro e w' ⟨rfl,rfl⟩
 refine⟨_,rfl,Z,fun _=>False,fun _=>False,⟨⟨_,[],fun _=>False,fun _=>False,rfl,trivial,trivial,fun _ h=>h,fun _ h=>h,fun _ h=>h.elim⟩,⟨[.int k' r],rfl,_,[],fun _=>False,fun _=>False,rfl,rfl,rfl,fun _ h=>h,fun _ h=>h,fun _ h=>h.elim⟩,fun _ h=>h.elim,fun _ h=>(h.elim id id:False).elim,fun _ h=>h,fun k hk=>⟨.inl hk,hZ k hk⟩,rfl,rfl,rfl,Nat.le_refl _,fun _ _ _=>rfl⟩⟩
end Go.Proofs.YthmcpmnhdbeahaaGreat.D
namespace Go.Proofs.YthmcpmnhdbeahaaGreat.D
open Go Go.RowKit
end Go.Proofs.YthmcpmnhdbeahaaGreat.D
namespace Go.Proofs.YthmcpmnhdbeahaaGreat.D
noncomputable def fuel:Nat:=Classical.choose (⟨64,rfl⟩:∃n,n=64)
theorem ZkF:fuel=64:=Classical.choose_spec (⟨64,rfl⟩:∃n,n=64)
theorem Zia {P:Go.Program} {g:Go.FuncId} (hc:Callable P g) {ins outs:List ASh} {R:Type} {dec:R→lsd (flats outs)×lsd (ios ins)}:Valid P g ⟨ins,outs,R,fun _=>none,dec⟩:=⟨hc,fun x r h=>by cases h⟩
end Go.Proofs.YthmcpmnhdbeahaaGreat.D
namespace Go.Proofs.YthmcpmnhdbeahaaGreat.P
open Go Go.RowKit Go.Proofs.YthmcpmnhdbeahaaGreat.D
noncomputable def Zs.E (c:Con):Env:={ tt:=TT,con:=[(289,c),(184,ZaF.con),(183,ZaB.con)],frz:=[64,91],rows:=[66],live:=[(3,[1,2,3,4,9,10]),(6,[1,2,3,4,9,10,11]),(14,[1,2,3,4,9,13])],n:=95,pin:=0,nils:=[] }
noncomputable def Zs.fn:D.Fn:={ body:=Tryz.f289.body.getD .skip,res:=Tryz.f289.results.toList,ins:=[.agg [.v (.sl 27 (.sl 2 (.int .i64)))],.one (.v (.int .i64)),.one (.v (.sl 2 (.int .i64))),.eat 29 false (.pr (.int .i64) (.sl 2 (.int .i64)))],outs:=[.one (.own 29 false (.pr (.int .i64) (.sl 2 (.int .i64))))] }
def Zs.enc (y:lsd (flats Zs.fn.outs)×lsd (ios Zs.fn.ins)):(List (Int×(List Int))):=y.1.1
noncomputable def Zs.cof (F:lsd (flats Zs.fn.ins)→Option (List (Int×(List Int)))):Con:=⟨Zs.fn.ins,Zs.fn.outs,(List (Int×(List Int))),F,fun r=>((r,()),(()))⟩
noncomputable def Zs.fx:Nat→lsd (flats Zs.fn.ins)→Option (List (Int×(List Int)))
 | 0=>fun _=>none
 | n+1=>fun x=>denF (Zs.E (Zs.cof (Zs.fx n))) Zs.fn Zs.enc x
noncomputable def Zs.cn (n:Nat):Con:=Zs.cof (Zs.fx n)
noncomputable def Zs.f (n:Nat) (l0_0:List (List Int)) (a1:Int) (l2:List Int) (l3:List (Int×(List Int))):Option (List (Int×(List Int))):=Zs.fx n (l0_0,a1,l2,l3,())
noncomputable def Zs.l0 (n:Nat) (x1:Int) (x2:List Int) (x9:Int) (x10:Int) (r0:List (Int×(List Int))) (b1_0:List (List Int)):Option (List (Int×(List Int))):=denAt (Zs.E (Zs.cn n)) Zs.fn Zs.enc [1,1,0,1,0] { fr:=[(1,.lf (.int .i64 x1)),(2,.lf (.sl (.int .i64) x2)),(3,.lf (.own 0)),(4,.lf (.box 1 0)),(9,.lf (.int .i64 x9)),(10,.lf (.int .i64 x10))],ob:=[(0,.row 29 false (.pr (.int .i64) (.sl 2 (.int .i64))) r0),(1,.box 26 false [.sl (.sl 2 (.int .i64)) b1_0])],nx:=2 }
noncomputable def Zs.l1 (n:Nat) (x1:Int) (x2:List Int) (x9:Int) (x10:Int) (x11:Int) (r0:List (Int×(List Int))) (b1_0:List (List Int)):Option (List (Int×(List Int))):=denAt (Zs.E (Zs.cn n)) Zs.fn Zs.enc [1,1,0,1,0,0,1,0,0,1,0] { fr:=[(1,.lf (.int .i64 x1)),(2,.lf (.sl (.int .i64) x2)),(3,.lf (.own 0)),(4,.lf (.box 1 0)),(9,.lf (.int .i64 x9)),(10,.lf (.int .i64 x10)),(11,.lf (.int .i64 x11))],ob:=[(0,.row 29 false (.pr (.int .i64) (.sl 2 (.int .i64))) r0),(1,.box 26 false [.sl (.sl 2 (.int .i64)) b1_0])],nx:=2 }
noncomputable def Zs.l2 (n:Nat) (x1:Int) (x2:List Int) (x9:Int) (x13:Int) (r0:List (Int×(List Int))) (b1_0:List (List Int)):Option (List (Int×(List Int))):=denAt (Zs.E (Zs.cn n)) Zs.fn Zs.enc [1,1,1,1,0,1,0] { fr:=[(1,.lf (.int .i64 x1)),(2,.lf (.sl (.int .i64) x2)),(3,.lf (.own 0)),(4,.lf (.box 1 0)),(9,.lf (.int .i64 x9)),(13,.lf (.int .i64 x13))],ob:=[(0,.row 29 false (.pr (.int .i64) (.sl 2 (.int .i64))) r0),(1,.box 26 false [.sl (.sl 2 (.int .i64)) b1_0])],nx:=2 }
theorem Zs.f_eq (n:Nat) (l0_0:List (List Int)) (a1:Int) (l2:List Int) (l3:List (Int×(List Int))):Zs.f (n+1) l0_0 a1 l2 l3=Zs.l0 n a1 l2 (l2.length:Int) 0 l3 l0_0:=by kernel_rfl
theorem Zs.l0_eq (n:Nat) (x1:Int) (x2:List Int) (x9:Int) (x10:Int) (r0:List (Int×(List Int))) (b1_0:List (List Int)):Zs.l0 n x1 x2 x9 x10 r0 b1_0=if x10 < x9 then(Zs.l1 n x1 x2 x9 x10 0 r0 b1_0)else(if x9=(b1_0.length:Int)then((ZaF.f x2).bind fun t64=>if r0.length+([(x1,t64)]:List (Int×(List Int))).length≤4398046511104 then(some (r0++([(x1,t64)]:List (Int×(List Int)))))else none)else(Zs.l2 n x1 x2 x9 1 r0 b1_0)):=(Zt _ _ _ _).trans (by kernel_rfl)
theorem Zs.l1_eq (n:Nat) (x1:Int) (x2:List Int) (x9:Int) (x10:Int) (x11:Int) (r0:List (Int×(List Int))) (b1_0:List (List Int)):Zs.l1 n x1 x2 x9 x10 x11 r0 b1_0=if x11 < x9 then(if 0≤x10 then(if x10 < (b1_0.length:Int)then(if 0≤x11 then(if x11 < ((row b1_0 x10).length:Int)then(if(T b1_0 x10 x11) < x9 then(if 0≤T b1_0 x10 x11 then(if T b1_0 x10 x11 < (x2.length:Int)then(if 0≤x10 then(if x10 < (x2.length:Int)then(if 0≤x11 then(if x11 < (x2.length:Int)then(if x1=0 then none else(if(rd x2 (T b1_0 x10 x11))=((wrapI ((rd x2 x10)*(rd x2 x11)):Int).tmod x1)then(Zs.l1 n x1 x2 x9 x10 (wrapI (x11+1)) r0 b1_0)else(some r0)))else none)else none)else none)else none)else none)else none)else(Zs.l1 n x1 x2 x9 x10 (wrapI (x11+1)) r0 b1_0))else none)else none)else none)else none)else(Zs.l0 n x1 x2 x9 (wrapI (x10+1)) r0 b1_0):=(Zt _ _ _ _).trans (by kernel_rfl)
theorem Zs.l2_eq (n:Nat) (x1:Int) (x2:List Int) (x9:Int) (x13:Int) (r0:List (Int×(List Int))) (b1_0:List (List Int)):Zs.l2 n x1 x2 x9 x13 r0 b1_0=if x13 < x1 then((ZaB.f x13 x1).bind fun t75=>if t75=1 then(if x9 > 0 then((ZaF.f x2).bind fun t88=>if t88.length+([x13]:List Int).length≤17592186044416 then((Zs.f n b1_0 x1 (t88++([x13]:List Int)) r0).bind fun t93=>Zs.l2 n x1 x2 x9 (wrapI (x13+1)) t93 b1_0)else none)else(if x13=1 then((ZaF.f x2).bind fun t88=>if t88.length+([x13]:List Int).length≤17592186044416 then((Zs.f n b1_0 x1 (t88++([x13]:List Int)) r0).bind fun t93=>Zs.l2 n x1 x2 x9 (wrapI (x13+1)) t93 b1_0)else none)else(Zs.l2 n x1 x2 x9 (wrapI (x13+1)) r0 b1_0)))else(Zs.l2 n x1 x2 x9 (wrapI (x13+1)) r0 b1_0))else(some r0):=(Zt _ _ _ _).trans (by kernel_rfl)
theorem Zs.vn:∀n,Valid Tryz.prog 289 (Zs.cn n)
 | 0=>Zia ⟨_,Tryz.func289,by kernel_rfl,by kernel_rfl⟩
 | n+1=>ZfH (f:=Zs.fn) (E:=Zs.E (Zs.cn n)) (enc:=Zs.enc) ⟨ttOk,(Ze (Zs.vn n) (Ze ZaF.valid (Ze ZaB.valid Zap)))⟩ (Checked.mixed Tryz.checked) ⟨Tryz.func289,by kernel_rfl,by kernel_rfl,by kernel_rfl,by kernel_rfl,of_decide_eq_true (by kernel_rfl),by kernel_rfl,by kernel_rfl⟩ (fun _=>rfl)
noncomputable def Zs.con:Con:=Zs.cn fuel
theorem Zs.valid:Valid Tryz.prog 289 Zs.con:=Zs.vn fuel
end Go.Proofs.YthmcpmnhdbeahaaGreat.P
namespace Go.Proofs.YthmcpmnhdbeahaaGreat.P
open Go Go.RowKit Go.Proofs.YthmcpmnhdbeahaaGreat.D
noncomputable def Zbg.E:Env:={ tt:=TT,con:=[(289,Zs.con)],frz:=[7],rows:=[8],live:=[],n:=10,pin:=0,nils:=[] }
noncomputable def Zbg.fn:D.Fn:={ body:=Tryz.f255.body.getD .skip,res:=Tryz.f255.results.toList,ins:=[.agg [.v (.sl 27 (.sl 2 (.int .i64)))],.one (.v (.int .i64))],outs:=[.one (.own 29 false (.pr (.int .i64) (.sl 2 (.int .i64))))] }
def Zbg.enc (y:lsd (flats Zbg.fn.outs)×lsd (ios Zbg.fn.ins)):(List (Int×(List Int))):=y.1.1
noncomputable def Zbg.f (l0_0:List (List Int)) (a1:Int):Option (List (Int×(List Int))):=denF Zbg.E Zbg.fn Zbg.enc (l0_0,a1,())
theorem Zbg.f_eq (l0_0:List (List Int)) (a1:Int):Zbg.f l0_0 a1=(Zs.f fuel l0_0 a1 ([]:List Int) ([]:List (Int×(List Int)))).bind fun t9=>some t9:=by kernel_rfl
noncomputable def Zbg.con:Con:=⟨Zbg.fn.ins,Zbg.fn.outs,(List (Int×(List Int))),fun x=>Zbg.f x.1 x.2.1,fun r=>((r,()),(()))⟩
theorem Zbg.valid:Valid Tryz.prog 255 Zbg.con:=fnV Zbg.fn Zbg.E Zbg.enc ⟨ttOk,(Ze Zs.valid Zap)⟩ Tryz.func255
end Go.Proofs.YthmcpmnhdbeahaaGreat.P
namespace Go.Proofs.YthmcpmnhdbeahaaGreat.P
open Go Go.RowKit Go.Proofs.YthmcpmnhdbeahaaGreat.D
noncomputable def ZaG.E:Env:={ tt:=TT,con:=[(255,Zbg.con),(174,ZZ.con)],frz:=[],rows:=[],live:=[],n:=18,pin:=1,nils:=[] }
noncomputable def ZaG.fn:D.Fn:={ body:=Tryz.f197.body.getD .skip,res:=Tryz.f197.results.toList,ins:=[.ptr false 143 [.v (.sl 5 (.int .u8)),.v (.int .i64),.v (.int .u64)],.agg [.v (.sl 27 (.sl 2 (.int .i64)))],.one (.v (.int .i64))],outs:=[.agg [.v (.int .i64),.v (.sl 2 (.int .i64))]] }
def ZaG.enc (y:lsd (flats ZaG.fn.outs)×lsd (ios ZaG.fn.ins)):Int×(List Int)×(List Int)×Int×Int:=(y.1.1,y.1.2.1,y.2.1,y.2.2.1,y.2.2.2.1)
noncomputable def ZaG.f (l0_0:List Int) (a0_1:Int) (a0_2:Int) (l1_0:List (List Int)) (a2:Int):Option (Int×(List Int)×(List Int)×Int×Int):=denF ZaG.E ZaG.fn ZaG.enc (l0_0,a0_1,a0_2,l1_0,a2,())
theorem ZaG.f_eq (l0_0:List Int) (a0_1:Int) (a0_2:Int) (l1_0:List (List Int)) (a2:Int):ZaG.f l0_0 a0_1 a0_2 l1_0 a2=(Zbg.f l1_0 a2).bind fun t10=>(ZZ.f l0_0 a0_1 a0_2 (t10.length:Int)).bind fun t15=>if 0≤t15.1 then(if t15.1 < (t10.length:Int)then(if 0≤t15.1 then(if t15.1 < (t10.length:Int)then(some ((Ty.rd (.pr (.int .i64) (.sl 2 (.int .i64))) t10 t15.1).1,(Ty.rd (.pr (.int .i64) (.sl 2 (.int .i64))) t10 t15.1).2,t15.2.1,t15.2.2.1,t15.2.2.2))else none)else none)else none)else none:=by kernel_rfl
noncomputable def ZaG.con:Con:=⟨ZaG.fn.ins,ZaG.fn.outs,Int×(List Int)×(List Int)×Int×Int,fun x=>ZaG.f x.1 x.2.1 x.2.2.1 x.2.2.2.1 x.2.2.2.2.1,fun r=>((r.1,r.2.1,()),(r.2.2.1,r.2.2.2.1,r.2.2.2.2,()))⟩
theorem ZaG.valid:Valid Tryz.prog 197 ZaG.con:=fnV ZaG.fn ZaG.E ZaG.enc ⟨ttOk,(Ze Zbg.valid (Ze ZZ.valid Zap))⟩ Tryz.func197
end Go.Proofs.YthmcpmnhdbeahaaGreat.P
namespace Go.Proofs.YthmcpmnhdbeahaaGreat.P
open Go Go.RowKit Go.Proofs.YthmcpmnhdbeahaaGreat.D
noncomputable def Za3.E:Env:={ tt:=TT,con:=[(175,ZaS.con)],frz:=[4],rows:=[],live:=[],n:=6,pin:=1,nils:=[] }
noncomputable def Za3.fn:D.Fn:={ body:=Tryz.f231.body.getD .skip,res:=Tryz.f231.results.toList,ins:=[.ptr false 143 [.v (.sl 5 (.int .u8)),.v (.int .i64),.v (.int .u64)]],outs:=[.one (.v (.int .i64))] }
def Za3.enc (y:lsd (flats Za3.fn.outs)×lsd (ios Za3.fn.ins)):Int×(List Int)×Int×Int:=(y.1.1,y.2.1,y.2.2.1,y.2.2.2.1)
noncomputable def Za3.f (l0_0:List Int) (a0_1:Int) (a0_2:Int):Option (Int×(List Int)×Int×Int):=denF Za3.E Za3.fn Za3.enc (l0_0,a0_1,a0_2,())
theorem Za3.f_eq (l0_0:List Int) (a0_1:Int) (a0_2:Int):Za3.f l0_0 a0_1 a0_2=(ZaS.f l0_0 a0_1 a0_2 ([2,2,3,3,4,4,5,6,8,8,9,12,7,10,11]:List Int)).bind fun t5=>some (t5.1,t5.2.1,t5.2.2.1,t5.2.2.2):=by kernel_rfl
noncomputable def Za3.con:Con:=⟨Za3.fn.ins,Za3.fn.outs,Int×(List Int)×Int×Int,fun x=>Za3.f x.1 x.2.1 x.2.2.1,fun r=>((r.1,()),(r.2.1,r.2.2.1,r.2.2.2,()))⟩
theorem Za3.valid:Valid Tryz.prog 231 Za3.con:=fnV Za3.fn Za3.E Za3.enc ⟨ttOk,(Ze ZaS.valid Zap)⟩ Tryz.func231
end Go.Proofs.YthmcpmnhdbeahaaGreat.P
namespace Go.Proofs.YthmcpmnhdbeahaaGreat.P
open Go Go.RowKit Go.Proofs.YthmcpmnhdbeahaaGreat.D
noncomputable def ZaE.E:Env:={ tt:=TT,con:=[(109,Zj.con),(231,Za3.con),(197,ZaG.con),(171,Zbh.con)],frz:=[9],rows:=[],live:=[],n:=17,pin:=1,nils:=[] }
noncomputable def ZaE.fn:D.Fn:={ body:=Tryz.f218.body.getD .skip,res:=Tryz.f218.results.toList,ins:=[.ptr false 143 [.v (.sl 5 (.int .u8)),.v (.int .i64),.v (.int .u64)],.agg [.v (.sl 27 (.sl 2 (.int .i64)))]],outs:=[.agg [.v (.int .i64),.v (.sl 2 (.int .i64))]] }
def ZaE.enc (y:lsd (flats ZaE.fn.outs)×lsd (ios ZaE.fn.ins)):Int×(List Int)×(List Int)×Int×Int:=(y.1.1,y.1.2.1,y.2.1,y.2.2.1,y.2.2.2.1)
noncomputable def ZaE.f (l0_0:List Int) (a0_1:Int) (a0_2:Int) (l1_0:List (List Int)):Option (Int×(List Int)×(List Int)×Int×Int):=denF ZaE.E ZaE.fn ZaE.enc (l0_0,a0_1,a0_2,l1_0,())
theorem ZaE.f_eq (l0_0:List Int) (a0_1:Int) (a0_2:Int) (l1_0:List (List Int)):ZaE.f l0_0 a0_1 a0_2 l1_0=(Zj.f l1_0).bind fun t6=>if t6=true then((Za3.f l0_0 a0_1 a0_2).bind fun t14=>(ZaG.f t14.2.1 t14.2.2.1 t14.2.2.2 l1_0 t14.1).bind fun t15=>(Zbh.f t15.2.2.1 t15.2.2.2.1 t15.2.2.2.2 t15.1 t15.2.1).bind fun t16=>some (t16.1,t16.2.1,t16.2.2.1,t16.2.2.2.1,t16.2.2.2.2))else(some (3,([1]:List Int),l0_0,a0_1,a0_2)):=by kernel_rfl
noncomputable def ZaE.con:Con:=⟨ZaE.fn.ins,ZaE.fn.outs,Int×(List Int)×(List Int)×Int×Int,fun x=>ZaE.f x.1 x.2.1 x.2.2.1 x.2.2.2.1,fun r=>((r.1,r.2.1,()),(r.2.2.1,r.2.2.2.1,r.2.2.2.2,()))⟩
theorem ZaE.valid:Valid Tryz.prog 218 ZaE.con:=fnV ZaE.fn ZaE.E ZaE.enc ⟨ttOk,(Ze Zj.valid (Ze Za3.valid (Ze ZaG.valid (Ze Zbh.valid Zap))))⟩ Tryz.func218
end Go.Proofs.YthmcpmnhdbeahaaGreat.P
namespace Go.Proofs.YthmcpmnhdbeahaaGreat.P
open Go Go.RowKit Go.Proofs.YthmcpmnhdbeahaaGreat.D
noncomputable def Zbb.E:Env:={ tt:=TT,con:=[(100,Zau.con),(196,ZaT.con),(218,ZaE.con)],frz:=[],rows:=[],live:=[],n:=14,pin:=0,nils:=[] }
noncomputable def Zbb.fn:D.Fn:={ body:=Tryz.f144.body.getD .skip,res:=Tryz.f144.results.toList,ins:=[.one (.v (.sl 5 (.int .u8)))],outs:=[.agg [.v (.sl 27 (.sl 2 (.int .i64)))],.agg [.v (.int .i64),.v (.sl 2 (.int .i64))]] }
def Zbb.enc (y:lsd (flats Zbb.fn.outs)×lsd (ios Zbb.fn.ins)):(List (List Int))×Int×(List Int):=(y.1.1,y.1.2.1,y.1.2.2.1)
noncomputable def Zbb.f (l0:List Int):Option ((List (List Int))×Int×(List Int)):=denF Zbb.E Zbb.fn Zbb.enc (l0,())
theorem Zbb.f_eq (l0:List Int):Zbb.f l0=(Zau.f l0).bind fun t7=>(ZaT.f t7.1 t7.2.1 t7.2.2).bind fun t9=>(ZaE.f t9.2.1 t9.2.2.1 t9.2.2.2 t9.1).bind fun t13=>some (t9.1,t13.1,t13.2.1):=by kernel_rfl
noncomputable def Zbb.con:Con:=⟨Zbb.fn.ins,Zbb.fn.outs,(List (List Int))×Int×(List Int),fun x=>Zbb.f x.1,fun r=>((r.1,r.2.1,r.2.2,()),(()))⟩
theorem Zbb.valid:Valid Tryz.prog 144 Zbb.con:=fnV Zbb.fn Zbb.E Zbb.enc ⟨ttOk,(Ze Zau.valid (Ze ZaT.valid (Ze ZaE.valid Zap)))⟩ Tryz.func144
end Go.Proofs.YthmcpmnhdbeahaaGreat.P
namespace Go.Proofs.YthmcpmnhdbeahaaGreat.P
open Go Go.RowKit Go.Proofs.YthmcpmnhdbeahaaGreat.D
noncomputable def ZW.E:Env:={ tt:=TT,con:=[(144,Zbb.con)],frz:=[],rows:=[],live:=[],n:=8,pin:=0,nils:=[] }
noncomputable def ZW.fn:D.Fn:={ body:=Tryz.f62.body.getD .skip,res:=Tryz.f62.results.toList,ins:=[.one (.v (.sl 5 (.int .u8)))],outs:=[.agg [.v (.sl 27 (.sl 2 (.int .i64)))],.agg [.v (.int .i64),.v (.sl 2 (.int .i64))]] }
def ZW.enc (y:lsd (flats ZW.fn.outs)×lsd (ios ZW.fn.ins)):(List (List Int))×Int×(List Int):=(y.1.1,y.1.2.1,y.1.2.2.1)
noncomputable def ZW.f (l0:List Int):Option ((List (List Int))×Int×(List Int)):=denF ZW.E ZW.fn ZW.enc (l0,())
theorem ZW.f_eq (l0:List Int):ZW.f l0=(Zbb.f l0).bind fun t5=>some (t5.1,t5.2.1,t5.2.2):=by kernel_rfl
noncomputable def ZW.con:Con:=⟨ZW.fn.ins,ZW.fn.outs,(List (List Int))×Int×(List Int),fun x=>ZW.f x.1,fun r=>((r.1,r.2.1,r.2.2,()),(()))⟩
theorem ZW.valid:Valid Tryz.prog 62 ZW.con:=fnV ZW.fn ZW.E ZW.enc ⟨ttOk,(Ze Zbb.valid Zap)⟩ Tryz.func62
end Go.Proofs.YthmcpmnhdbeahaaGreat.P
namespace Go.Proofs.YthmcpmnhdbeahaaGreat.P
open Go Go.RowKit Go.Proofs.YthmcpmnhdbeahaaGreat.D
noncomputable def ZaY.E:Env:={ tt:=TT,con:=[],frz:=[],rows:=[],live:=[(2,[0,7,8,9])],n:=21,pin:=0,nils:=[] }
noncomputable def ZaY.fn:D.Fn:={ body:=Tryz.f93.body.getD .skip,res:=Tryz.f93.results.toList,ins:=[.one (.v (.int .i64)),.one (.v (.sl 2 (.int .i64)))],outs:=[.one (.v .bool)] }
def ZaY.enc (y:lsd (flats ZaY.fn.outs)×lsd (ios ZaY.fn.ins)):Bool:=y.1.1
noncomputable def ZaY.f (a0:Int) (l1:List Int):Option Bool:=denF ZaY.E ZaY.fn ZaY.enc (a0,l1,())
noncomputable def ZaY.l0 (x0:Int) (x7:List Int) (x8:Int) (x9:Int):Option Bool:=denAt ZaY.E ZaY.fn ZaY.enc [1,0,1,0] { fr:=[(0,.lf (.int .i64 x0)),(7,.lf (.sl (.int .i64) x7)),(8,.lf (.int .i64 x8)),(9,.lf (.int .i64 x9))],ob:=[],nx:=0 }
theorem ZaY.f_eq (a0:Int) (l1:List Int):ZaY.f a0 l1=ZaY.l0 a0 l1 (l1.length:Int) 0:=by kernel_rfl
theorem ZaY.l0_eq (x0:Int) (x7:List Int) (x8:Int) (x9:Int):ZaY.l0 x0 x7 x8 x9=if x9 < x8 then(if 0≤x9 then(if x9 < (x7.length:Int)then(if(rd x7 x9) < 0 then(some false)else(if(rd x7 x9)≥x0 then(some false)else(ZaY.l0 x0 x7 x8 (wrapI (x9+1)))))else none)else none)else(some true):=(Zt _ _ _ _).trans (by kernel_rfl)
noncomputable def ZaY.con:Con:=⟨ZaY.fn.ins,ZaY.fn.outs,Bool,fun x=>ZaY.f x.1 x.2.1,fun r=>((r,()),(()))⟩
theorem ZaY.valid:Valid Tryz.prog 93 ZaY.con:=fnV ZaY.fn ZaY.E ZaY.enc ⟨ttOk,Zap⟩ Tryz.func93
end Go.Proofs.YthmcpmnhdbeahaaGreat.P
