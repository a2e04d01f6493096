/- What the proof of the law CrossedMaps stands on, part 3: words, each Go function's Lean function, and that the Go code comes to its answers; no condition. (Packed by wip/myprint/pack.py out of what the kit's printer wrote, its words among it, partly by our patches of it, and out of texts of this session.) -/
import Derived.Eval
import Derived.Test.YthmcpmnhdbeahaaGreatProg
import Derived.Test.YthmcpmnhdbeahaaGreatChecked
import Derived.KernelRfl
import Derived.Test.YthmcpmnhdbeahaaGreatKCrossedMaps2
set_option linter.unusedVariables false
set_option linter.unusedSimpArgs false
namespace Go.Proofs.YthmcpmnhdbeahaaGreat.D
open Go Go.RowKit
abbrev msk (listed:Array Bool):Nat→Bool:=fun j=>listed.getD j false
theorem ZmK {listed:Array Bool} {i:Nat} (hi:i < listed.size):msk (listed.setIfInBounds i true)=Chg.also (msk listed) i:=by
 funext j
 unfold msk Chg.also
 by_cases h:j=i
 ·
  subst h;simp[Array.getD_eq_getD_getElem?,hi]
 ·
  rw[if_neg h];simp[Array.getD_eq_getD_getElem?,Array.getElem?_setIfInBounds_ne (Ne.symm h)]
theorem Zf2 {ops:Array Oper} {listed:Array Bool} {i:Nat}:i∈Region.ready .any ops listed↔∃o,ops[i]? = some o∧listed.getD i true=false∧∀e∈o.after,Region.binds .any e=true→listed.getD e.on false=true:=by
 unfold Region.ready
 rw[List.mem_filter,List.mem_range]
 constructor
 ·
  rintro⟨h1,h2⟩
  rw[Bool.and_eq_true]at h2
  obtain⟨h2,h3⟩:=h2
  have ho:ops[i]? = some ops[i]:=Array.getElem?_eq_getElem h1
  refine⟨_,ho,by simpa using h2,fun e he hb => ?_⟩
  rw[ho]at h3
  simp only[Option.map_some,Option.getD_some,Array.all_eq_true_iff_forall_mem]at h3
  have:=h3 e he
  rw[hb]at this
  simpa using this
 ·
  rintro⟨o,ho,h2,h3⟩
  refine⟨(Array.getElem?_eq_some_iff.1 ho).1,?_⟩
  rw[Bool.and_eq_true,ho]
  refine⟨by simp[h2],?_⟩
  simp only[Option.map_some,Option.getD_some,Array.all_eq_true_iff_forall_mem]
  intro e he
  cases hb:Region.binds .any e with
  | false=>rfl
  | true=>simpa using h3 e he hb
section
variable {P:Program} {B:Nat→Prop} {n:Nat} {J:Rel} {a:Act} {w:World}
def Shut (ops:Array Oper) (m:Nat→Bool):Prop:=∀j o,ops[j]? = some o→m j=true→∀e∈o.after,Region.binds .any e=true→m e.on=true
theorem Zh5 {ops:Array Oper} {m:Nat→Bool} (hs:Shut ops m):∀(k:Nat) (o:Oper) (b i:Nat),ops[k]? = some o→(befs ops.toList [])[k]? = some b→(∀e∈o.after,Region.binds .any e=true→m e.on=true)→b.testBit i=true→m i=true:=by
 intro k
 induction k using Nat.strongRecOn with
 | _ k ih =>
  intro o b i ho hb he hi
  obtain⟨e,h1,h2,h3⟩:=ZjV (l:=ops.toList) (by simpa using ho) hb hi
  have hme:=he e (by simpa using h1) h2
  rcases h3 with rfl|⟨m', h4,h5,h6⟩
  ·
   exact hme
  ·
   cases hoe:ops[e.on]? with
   | none =>
    have:e.on < ops.size:=Nat.lt_trans h4 (Array.getElem?_eq_some_iff.1 ho).1
    rw[Array.getElem?_eq_getElem this]at hoe;cases hoe
   | some o' => exact ih e.on h4 o' m' i hoe h5 (hs e.on o' hoe hme) h6
theorem ZhE {ops:Array Oper} {ss:List Stp} {m i j:Nat} {b:Oper} {t:Stp} (hb:ops[j]? = some b) (ht:ss[j]? = some t) (h:∀a ta,ops.toList[i]? = some a→(ss.map fun s=>(s.need,s.tch))[i]? = some ta→ZhZ ops m a ta i b (t.need,t.tch)=true) (hm:m.testBit i=false):Frees ops ss i j:=by
 intro a b' s t' h1 h2 h3 h4
 rw[hb]at h2
 cases h2
 rw[ht]at h4
 cases h4
 have:=h a (s.need,s.tch) (by simpa using h1) (by simp[h3])
 unfold ZhZ at this
 rw[hm,Bool.false_or,Bool.and_eq_true]at this
 exact this
theorem Ze0 {a b:Trc} (h:free2 a b=true):(∀T∈a.2,T ∉ b.1∧T ∉ b.2)∧∀T∈a.1,T ∉ b.2:=by
 unfold free2 at h
 rw[Bool.and_eq_true,List.all_eq_true,List.all_eq_true]at h
 refine⟨fun T hT => ?_,fun T hT => ?_⟩
 ·
  simpa using h.1 T hT
 ·
  simpa using h.2 T hT
theorem ZjL (hm:P.follows .mixedOrders=true) (hJ:Stays J) (hJd:∀{ρ Z ob w},J ρ Z ob w→J ρ Z ob { w with drawn:=w.drawn+1 }) {id:Nat} {ops:Array Oper} {Q:Exit→Act→World→Prop} {σ σ' : St} {ss:List Stp} (hc:Chain P B n ops ops.toList σ ss σ')
  (hb:bern ops (ss.map fun s=>(s.need,s.tch))=true) (h:HldS P B n J σ a w) (hQ:∀a w,HldS P B n J σ' a w→Q .normal a w):(Code.region id ops true).wp P Q a w:=by
 obtain⟨c1,c2,c3,c4,c5,c6⟩:=ZiW _ _ _ _ hc
 have c1:ss.length=ops.size:=by simpa using c1
 have hsome:∀k,k < ops.size→∃o s,ops[k]? = some o∧ss[k]? = some s:=fun k hk=>⟨_,_,Array.getElem?_eq_getElem hk,List.getElem?_eq_getElem (by omega)⟩
 have hbern:∀k o s,ops[k]? = some o→ss[k]? = some s→(∀e∈o.after,Region.binds .any e=true→e.on < k)∧∃m,(befs ops.toList [])[k]? = some m∧∀i,i < k→m.testBit i=false→Frees ops ss i k:=fun k o s ho hs=>by
  obtain⟨g1,m,g2,g3⟩:=Zht _ _ _ 0 hb k o (s.need,s.tch) (by simpa using ho) (by simp[hs])
  rw[Nat.zero_add]at g1 g3
  refine⟨fun e he hbd => ?_,m,g2,fun i hi=>ZhE ho hs fun a ta h1 h2=>g3 i a ta hi h1 h2⟩
  rw[Array.all_eq_true_iff_forall_mem]at g1
  have:=g1 e he
  rw[hbd]at this
  simpa using this
 let I:(Nat→Bool)→Act→World→Prop:=fun m a w=>Hld P B n J (Chg.fold m 0 (ss.map Stp.fchg) (lookF σ.fr)) (Chg.fold m 0 (ss.map Stp.ochg) (look σ.ob)) (fun T => σ.nx≤T∧∀(j:Nat) s,ss[j]? = some s→m j=true→¬ (s.lo≤T∧T < s.hi)) a w
 have hend:∀m a w,(∀j,j < ops.size→m j=true)→I m a w→Q .normal a w:=fun m a w hall hI=>by
  refine hQ a w ?_
  show Hld P B n J (lookF σ'.fr) (look σ'.ob) _ a w
  rw[c3,c4,←Chg.fold_all (m:=m) (ss.map Stp.ochg) 0 _ (fun j hj=>by rw[Nat.zero_add];exact hall j (by simpa [c1] using hj)),←Chg.fold_all (m:=m) (ss.map Stp.fchg) 0 _ (fun j hj=>by rw[Nat.zero_add];exact hall j (by simpa [c1] using hj))]
  refine Hld.less hI fun T (hT : σ'.nx≤T)=>⟨Nat.le_trans c2 hT,fun j s hs _ hr => ?_⟩
  have:=(c5 j s hs).2
  omega
 have hstep:∀(m:Nat→Bool) (k:Nat) (o:Oper) (a:Act) (w:World),Shut ops m→ops[k]? = some o→m k=false→(∀e∈o.after,Region.binds .any e=true→m e.on=true)→I m a w→∀(K:Act→World→Prop),(∀a w,I (Chg.also m k) a w→K a w)→wpOp P ops Q k K a w:=by
  intro m k o a w hsh ho hmk hed hI K hK
  have hk:=(Array.getElem?_eq_some_iff.1 ho).1
  obtain⟨_,s,_,hs⟩:=hsome k hk
  obtain⟨b1,mk,b2,b3⟩:=hbern k o s ho hs
  obtain⟨σk,d1,d2,d3,d4⟩:=c6 k o s (by simpa using ho) hs
  have before:∀j,j < k→m j=false→Frees ops ss j k:=fun j hj hmj=>b3 j hj (by
   cases ht:mk.testBit j with
   | false=>rfl
   | true=>rw[Zh5 hsh k o mk j ho b2 hed ht]at hmj;cases hmj)
  have behind:∀j,k < j→m j=true→j < ops.size→Frees ops ss k j:=fun j hj hmj hjs=>by
   obtain⟨o', s', ho', hs'⟩:=hsome j hjs
   obtain⟨_,mj,e2,e3⟩:=hbern j o' s' ho' hs'
   refine e3 k hj ?_
   cases ht:mj.testBit k with
   | false=>rfl
   | true=>rw[Zh5 hsh j o' mj k ho' e2 (hsh j o' ho' hmj) ht]at hmk;cases hmk
  have get:∀{β : Type} (f:Stp→Chg β) {j:Nat} {c:Chg β},(ss.map f)[j]? = some c→∃o' s', ops[j]? = some o' ∧ ss[j]? = some s' ∧ c=f s' := fun {β} f {j c} hc=>by
   rw[List.getElem?_map]at hc
   cases hj:ss[j]? with
   | none=>rw[hj]at hc;cases hc
   | some s' =>
    rw[hj]at hc
    cases hc
    have:j < ops.size:=c1 ▸ (List.getElem?_eq_some_iff.1 hj).1
    exact⟨_,s', Array.getElem?_eq_getElem this,rfl,rfl⟩
  refine Zlc ho (Zjk hJ d1 hI (fun T hT => ?_) (fun t ht => ?_) (fun T h1 h2=>⟨Nat.le_trans (c5 k s hs).1 h1,fun j s' hs' hmj hr => ?_⟩) fun a' w' h' => hK a' w' ?_)
  ·
   show Chg.fold m 0 (ss.map Stp.ochg) (look σ.ob) T=look σk.ob T
   rw[d2]
   refine Chg.fold_look (fun j c hj hc hmj ht => ?_) fun j c hj hc hmj ht => ?_
   ·
    obtain⟨o', s', ho', hs', rfl⟩:=get _ hc
    have hf:=Ze0 (before j hj hmj o' o s' s ho' ho hs' hs).2
    have ht:T∈s'.tch:=ht
    exact(List.mem_append.1 hT).elim (hf.1 T ht).1 (hf.1 T ht).2
   ·
    obtain⟨o', s', ho', hs', rfl⟩:=get _ hc
    have hne:k≠j:=fun e=>by rw[e,hmj]at hmk;cases hmk
    have hf:=Ze0 (behind j (by omega) hmj (Array.getElem?_eq_some_iff.1 ho').1 o o' s s' ho ho' hs hs').2
    have ht:T∈s'.tch:=ht
    exact(List.mem_append.1 hT).elim (fun h=>hf.2 T h ht) fun h=>(hf.1 T h).2 ht
  ·
   show Chg.fold m 0 (ss.map Stp.fchg) (lookF σ.fr) t=lookF σk.fr t
   rw[d3]
   refine Chg.fold_look (fun j c hj hc hmj htc => ?_) fun j c hj hc hmj htc => ?_
   ·
    obtain⟨o', s', ho', hs', rfl⟩:=get _ hc
    have hf:=Oper.apart_spec (before j hj hmj o' o s' s ho' ho hs' hs).1
    have htc:s'.dst=some t:=htc
    obtain⟨σj,e1,_⟩:=c6 j o' s' (by simpa using ho') hs'
    exact hf.1 t (e1.dst ▸ htc) ht
   ·
    obtain⟨o', s', ho', hs', rfl⟩:=get _ hc
    have hne:k≠j:=fun e=>by rw[e,hmj]at hmk;cases hmk
    have hf:=Oper.apart_spec (behind j (by omega) hmj (Array.getElem?_eq_some_iff.1 ho').1 o o' s s' ho ho' hs hs').1
    have htc:s'.dst=some t:=htc
    obtain⟨σj,e1,_⟩:=c6 j o' s' (by simpa using ho') hs'
    exact hf.2.2 t (e1.dst ▸ htc) ht
  ·
   have hjs:j < ops.size:=c1 ▸ (List.getElem?_eq_some_iff.1 hs').1
   obtain⟨o', _,ho', _⟩:=hsome j hjs
   obtain⟨_,_,_,_,e4⟩:=c6 j o' s' (by simpa using ho') hs'
   rcases Nat.lt_trichotomy j k with hjk|rfl|hjk
   ·
    have:=d4 j s' hjk hs';omega
   ·
    rw[hmj]at hmk;cases hmk
   ·
    have:=e4 k s hjk hs;omega
  ·
   have e1:Chg.fold (Chg.also m k) 0 (ss.map Stp.ochg) (look σ.ob)=s.ochg.ap (Chg.fold m 0 (ss.map Stp.ochg) (look σ.ob)):=Chg.fold_also (by simp[hs]) fun j c hj hc hmj T hT ht=>by
    obtain⟨o', s', ho', hs', rfl⟩:=get _ hc
    exact((Ze0 (behind j hj hmj (Array.getElem?_eq_some_iff.1 ho').1 o o' s s' ho ho' hs hs').2).1 T hT).2 ht
   have e2:Chg.fold (Chg.also m k) 0 (ss.map Stp.fchg) (lookF σ.fr)=s.fchg.ap (Chg.fold m 0 (ss.map Stp.fchg) (lookF σ.fr)):=Chg.fold_also (by simp[hs]) fun j c hj hc hmj T hT ht=>by
    obtain⟨o', s', ho', hs', rfl⟩:=get _ hc
    have hf:=Oper.apart_spec (behind j hj hmj (Array.getElem?_eq_some_iff.1 ho').1 o o' s s' ho ho' hs hs').1
    have ht:s'.dst=some T:=ht
    have hT:s.dst=some T:=hT
    obtain⟨σj,f1,_⟩:=c6 j o' s' (by simpa using ho') hs'
    exact hf.2.1 T (d1.dst ▸ hT) (f1.dst ▸ ht)
   show Hld P B n J _ _ _ a' w'
   rw[e1,e2]
   refine h'.less fun T hT=>⟨⟨hT.1,fun j s' hs' hmj=>hT.2 j s' hs' ?_⟩,hT.2 k s hs (if_pos rfl)⟩
   unfold Chg.also
   split
   ·
    rfl
   ·
    exact hmj
 have main:∀(fuel:Nat) (listed:Array Bool) (a:Act) (w:World),listed.size=ops.size→Shut ops (msk listed)→cnt (msk listed) ops.size≤fuel→I (msk listed) a w→wpAny P .any ops Q fuel listed a w:=by
  intro fuel
  induction fuel with
  | zero =>
   intro listed a w hsz hsh hcn hI
   have hall:=Zi1 (Nat.le_zero.1 hcn)
   refine⟨List.eq_nil_iff_forall_not_mem.2 fun i hi => ?_,hend _ a w hall hI⟩
   obtain⟨o,h1,h2,_⟩:=Zf2.1 hi
   have hi' := (Array.getElem?_eq_some_iff.1 h1).1
   have:=hall i hi'
   unfold msk at this
   simp[Array.getD_eq_getD_getElem?,hsz ▸ hi']at this h2
   rw[this]at h2;cases h2
  | succ fuel ih =>
   intro listed a w hsz hsh hcn hI
   refine⟨fun hnil=>hend _ a w (fun j => ?_) hI,fun i hi => ?_⟩
   ·
    induction j using Nat.strongRecOn with
    | _ j ihj =>
     intro hj
     cases hmj:msk listed j with
     | true=>rfl
     | false =>
      exfalso
      obtain⟨o,s,ho,hs⟩:=hsome j hj
      have:j∈Region.ready .any ops listed:=Zf2.2 ⟨o,ho,by
       unfold msk at hmj
       simpa [Array.getD_eq_getD_getElem?,hsz ▸ hj] using hmj,fun e he hb=>by
       have hlt:=(hbern j o s ho hs).1 e he hb
       exact ihj e.on hlt (Nat.lt_trans hlt hj)⟩
      rw[hnil]at this
      cases this
   ·
    obtain⟨o,h1,h2,h3⟩:=Zf2.1 hi
    have hi' := (Array.getElem?_eq_some_iff.1 h1).1
    have hmi:msk listed i=false:=by
     unfold msk
     simpa [Array.getD_eq_getD_getElem?,hsz ▸ hi'] using h2
    have hset:=ZmK (listed:=listed) (i:=i) (hsz ▸ hi')
    refine hstep (msk listed) i o a w hsh h1 hmi h3 hI _ fun a' w' hI' => ih _ a' w' (by simpa using hsz) ?_ ?_ (hset ▸ hI')
    ·
     rw[hset]
     intro j o' ho' hmj e he hb
     unfold Chg.also at hmj ⊢
     split
     ·
      rfl
     ·
      split at hmj
      ·
       rename_i hji
       subst hji
       rw[h1]at ho'
       cases ho'
       exact h3 e he hb
      ·
       exact hsh j o' ho' hmj e he hb
    ·
     rw[hset]
     have:=Zi0 hmi hi'
     omega
 have hno:∀j,msk (Array.replicate ops.size false) j=false:=fun j=>by
  unfold msk
  simp only[Array.getD_eq_getD_getElem?,Array.getElem?_replicate]
  split <;> rfl
 refine wp_region_any hm (main ops.size _ a _ (by simp) (fun j o ho hmj=>by rw[hno j]at hmj;cases hmj) (Zl9 _) ?_)
 show Hld P B n J _ _ _ a _
 rw[Chg.fold_none _ _ _ fun j _=>hno j,Chg.fold_none _ _ _ fun j _=>hno j]
 obtain⟨ρ,Z,L,h1,h2,h3,h4,h5,h6,h7⟩:=h
 have ht:Trn ρ Z (look σ.ob) w ρ Z (look σ.ob) { w with drawn:=w.drawn+1 }:=⟨rfl,rfl,rfl,Nat.le_refl _,fun _ _ _=>rfl,fun _ h => .inl h,fun _ h => .inl h,fun _ h=>h,fun _ z h=>⟨z,h,rfl⟩⟩
 have hf:=ht.fut h2
 refine⟨ρ,Z,L,h1,?_,hJd h3,fun t av hav=>(h4 t av hav).fut hf,h5,h6,fun T hT=>h7 T hT.1⟩
 exact ZhN h2 (fun _=>False) hf (fun _ _ => .inl rfl) (fun _ _=>rfl) (fun T z _ h8 h9=>⟨fun _ _=>rfl,fun k hk=>(h2.zsep k ⟨T,z,h8,h9,hk⟩).1⟩) (fun _ _ h=>h.elim) (fun _ _ _ h=>h.elim) (Nat.le_refl _) h2.zlt
end
end Go.Proofs.YthmcpmnhdbeahaaGreat.D
namespace Go.Proofs.YthmcpmnhdbeahaaGreat.D
open Go Go.RowKit
structure Bas (pin:Nat) (ρ : Rz) (Z:Nat→Prop) (ob:Obs) (w:World) (ρ' : Rz) (Z' : Nat→Prop) (ob' : Obs) (w' : World):Prop where
 os:w'.os=w.os
 tape:w'.tape=w.tape
 output:w'.output=w.output
 size:w.heap.size≤w'.heap.size
 old:∀k,k < w.heap.size→¬ Own ρ ob k→w'.heap[k]? = w.heap[k]?
 own:∀k,Own ρ' ob' k→Own ρ ob k∨w.heap.size≤k
 zn:∀k,Z' k→Z k∨Own ρ ob k∨w.heap.size≤k
 zm:∀k,Z k→Z' k
 hdr:∀T z,T < pin → ρ T=some z→∃z', ρ' T=some z' ∧ z'.hdr=z.hdr
section
variable {pin:Nat} {ρ ρ' ρ'' : Rz} {Z Z' Z'' : Nat→Prop} {ob ob' ob'' : Obs} {w w' w'' : World}
theorem Bas.refl:Bas pin ρ Z ob w ρ Z ob w:=⟨rfl,rfl,rfl,Nat.le_refl _,fun _ _ _=>rfl,fun _ h => .inl h,fun _ h => .inl h,fun _ h=>h,fun _ z _ h=>⟨z,h,rfl⟩⟩
theorem Bas.trn (h:Bas pin ρ Z ob w ρ' Z' ob' w') (h' : Trn ρ' Z' ob' w' ρ'' Z'' ob'' w''):Bas pin ρ Z ob w ρ'' Z'' ob'' w'' where
 os:=h'.os.trans h.os
 tape:=h'.tape.trans h.tape
 output:=h'.output.trans h.output
 size:=Nat.le_trans h.size h'.size
 old:=fun k hk hn=>(h'.old k (Nat.lt_of_lt_of_le hk h.size) fun ho=>(h.own k ho).elim hn fun h=>by omega).trans (h.old k hk hn)
 own:=fun k hk=>(h'.own k hk).elim (h.own k) fun h1 => .inr (Nat.le_trans h.size h1)
 zn:=fun k hk=>(h'.zn k hk).elim (h.zn k) fun h1=>h1.elim (fun h2 => .inr (h.own k h2)) fun h2 => .inr (.inr (Nat.le_trans h.size h2))
 zm:=fun k hk=>h'.zm k (h.zm k hk)
 hdr:=fun T z hT hz=>by
  obtain⟨z', h1,h2⟩:=h.hdr T z hT hz
  obtain⟨z'', h3,h4⟩:=h'.hdr T z' h1
  exact⟨z'', h3,h4.trans h2⟩
theorem Bas.ren (h:Bas pin ρ Z ob w ρ' Z' ob' w') (h1:∀T,T < pin → ρ'' T = ρ' T) (h2:∀k,Own ρ'' ob'' k→Own ρ' ob' k):Bas pin ρ Z ob w ρ'' Z' ob'' w' where
 os:=h.os
 tape:=h.tape
 output:=h.output
 size:=h.size
 old:=h.old
 own:=fun k hk=>h.own k (h2 k hk)
 zn:=h.zn
 zm:=h.zm
 hdr:=fun T z hT hz=>by
  obtain⟨z', h3,h4⟩:=h.hdr T z hT hz
  exact⟨z', (h1 T hT).trans h3,h4⟩
end
theorem Zde (ob:List (Nat×Ob)):∀(n:Nat) (l seen:List Nat),∃t,reach ob n l seen=seen++t
 | 0,_,seen=>⟨[],by simp[reach]⟩
 | n+1,[],seen=>⟨[],by simp[reach]⟩
 | n+1,T :: r,seen=>by
  unfold reach
  cases seen.contains T with
  | true=>exact Zde ob n r seen
  | false =>
   simp only[cond_false]
   split
   ·
    obtain⟨t,ht⟩:=Zde ob n (r++Zfb _) (seen++[T])
    exact⟨[T]++t,by rw[ht];simp⟩
   ·
    obtain⟨t,ht⟩:=Zde ob n r (seen++[T])
    exact⟨[T]++t,by rw[ht];simp⟩
   ·
    obtain⟨t,ht⟩:=Zde ob n (r++[_]) (seen++[T])
    exact⟨[T]++t,by rw[ht];simp⟩
   ·
    exact Zde ob n r seen
theorem ZcJ (ob:List (Nat×Ob)):∀(n:Nat) (l seen:List Nat),seen.Nodup→(reach ob n l seen).Nodup
 | 0,_,seen,h=>by simpa [reach] using h
 | n+1,[],seen,h=>by simpa [reach] using h
 | n+1,T :: r,seen,h=>by
  unfold reach
  cases hc:seen.contains T with
  | true=>exact ZcJ ob n r seen h
  | false =>
   have h' : (seen++[T]).Nodup:=by
    rw[List.nodup_append]
    refine⟨h,by simp,fun a ha b hb => ?_⟩
    rw[List.mem_singleton.1 hb]
    intro e
    subst e
    simp at hc
    exact hc ha
   simp only[cond_false]
   split
   ·
    exact ZcJ ob n _ _ h'
   ·
    exact ZcJ ob n _ _ h'
   ·
    exact ZcJ ob n _ _ h'
   ·
    exact ZcJ ob n _ _ h
theorem Zgy {T:Nat}:∀{s:List Nat} {i k:Nat},posOf T s i=some k→∃j,k=i+j∧s[j]? = some T
 | [],_,_,h=>by cases h
 | U :: r,i,k,h=>by
  unfold posOf at h
  cases hb:Nat.beq T U with
  | true =>
   rw[hb]at h
   cases h
   obtain rfl:=Nat.eq_of_beq_eq_true hb
   exact⟨0,rfl,rfl⟩
  | false =>
   rw[hb]at h
   obtain⟨j,h1,h2⟩:=Zgy (s:=r) h
   exact⟨j+1,by omega,by simpa using h2⟩
section
variable {P:Program} {B Z:Nat→Prop} {ρ : Rz} {w:World} {s:List Nat}
def renR (s:List Nat) (ρ : Rz):Rz:=fun i=>(s[i]?).bind ρ
theorem Zdq {T i:Nat} (h:posOf T s 0=some i):renR s ρ i = ρ T:=by
 obtain⟨j,h1,h2⟩:=Zgy h
 rw[Nat.zero_add]at h1
 subst h1
 unfold renR
 rw[h2];rfl
theorem CapsR.ren:∀{caps c:List (Nat×Nat)} {vs:List Value},Zhb s caps=some c→CapsR ρ caps vs→CapsR (renR s ρ) c vs
 | [],c,vs,h,hc=>by cases h;exact hc
 | (T,o) :: r,c,vs,h,⟨v,vs', h1,⟨z,g,h2,h3,h4⟩,h5⟩=>by
  unfold Zhb at h
  split at h
  ·
   rename_i i l hi hl
   cases h
   exact⟨v,vs', h1,⟨z,g,(Zdq hi).trans h2,h3,h4⟩,CapsR.ren hl h5⟩
  ·
   cases h
theorem LR.ren {v:Value}:∀{l:Lf},LR P B ρ Z w l v→LR P B (renR s ρ) Z w (renLf s l) v
 | .int _ _,h=>h
 | .cnd _ _ _,h=>h
 | .str _,h=>h
 | .raw _,h=>h
 | .sl _ _,h=>h
 | .nil,h=>h
 | .own T,h=>by
  unfold renLf
  simp only
  split
  ·
   rename_i i hi
   obtain⟨z,h1,h2⟩:=h
   exact⟨z,(Zdq hi).trans h1,h2⟩
  ·
   exact h.one rfl
 | .sub T j,h=>by
  unfold renLf
  simp only
  split
  ·
   rename_i i hi
   obtain⟨z,g,n,c,h1,h2⟩:=h
   exact⟨z,g,n,c,(Zdq hi).trans h1,h2⟩
  ·
   exact LR.one (P:=P) (B:=B) (ρ := ρ) (Z:=Z) (w:=w) (l := .sub T j) h rfl
 | .box T o,h=>by
  unfold renLf
  simp only
  split
  ·
   rename_i i hi
   obtain⟨z,g,h1,h2⟩:=h
   exact⟨z,g,(Zdq hi).trans h1,h2⟩
  ·
   exact LR.one (P:=P) (B:=B) (ρ := ρ) (Z:=Z) (w:=w) (l := .box T o) h rfl
 | .elt T i z o,h=>by
  unfold renLf
  simp only
  split
  ·
   rename_i j hj
   obtain⟨z,g,n,c,h1,h2⟩:=h
   exact⟨z,g,n,c,(Zdq hj).trans h1,h2⟩
  ·
   exact h.one rfl
 | .vpt _ _ _,h=>h
 | .fn _ _ _,h=>h
 | .clo g caps,h=>by
  unfold renLf
  simp only
  split
  ·
   rename_i c hc
   obtain⟨vs,h1,h2⟩:=h
   exact⟨vs,h1,h2.ren hc⟩
  ·
   exact h.one rfl
 | .undef,h=>h
 | .top,h=>h
 | .emp _,h=>h
 | .pre T j,h=>by
  unfold renLf
  simp only
  split
  ·
   rename_i i hi
   obtain⟨z,g,n,c,h1,h2⟩:=h
   exact⟨z,g,n,c,(Zdq hi).trans h1,h2⟩
  ·
   exact LR.one (P:=P) (B:=B) (ρ := ρ) (Z:=Z) (w:=w) (l := .pre T j) h rfl
theorem LRs.ren:∀{ls:List Lf} {vs:List Value},LRs P B ρ Z w ls vs→LRs P B (renR s ρ) Z w (Zga s ls) vs
 | [],_,h=>h
 | l :: r,_,⟨v,vs', h1,h2,h3⟩=>⟨v,vs', h1,h2.ren,LRs.ren h3⟩
theorem TupR.ren:∀{ps:List (Bool×List Lf)} {vs:List Value},TupR P B ρ Z w ps vs→TupR P B (renR s ρ) Z w (ZkT s ps) vs
 | [],_,h=>h
 | (b,ls) :: r,_,⟨v,vs', cs,h1,h2,h3,h4⟩=>⟨v,vs', cs,h1,h2.ren,h3,TupR.ren h4⟩
theorem AR.ren {v:Value}:∀{av:AV},AR P B ρ Z w av v→AR P B (renR s ρ) Z w (renAV s av) v
 | .lf _,h=>LR.ren h
 | .agg _,⟨vs,h1,h2⟩=>⟨vs,h1,h2.ren⟩
 | .tup _,⟨vs,h1,h2⟩=>⟨vs,h1,h2.ren⟩
theorem ZlK:∀{l:Lf},l.ok=true→(renLf s l).ok=true
 | .int _ _,h=>h
 | .cnd _ _ _,h=>h
 | .str _,h=>h
 | .raw _,h=>h
 | .sl _ _,h=>h
 | .nil,h=>h
 | .own T,h=>by unfold renLf;simp only;split <;> rfl
 | .sub T _,h=>by unfold renLf;simp only;split <;> rfl
 | .pre T _,h=>by unfold renLf;simp only;split <;> rfl
 | .box T _,h=>by unfold renLf;simp only;split <;> rfl
 | .elt T _ _ _,h=>by unfold renLf;simp only;split <;> rfl
 | .vpt _ _ _,h=>h
 | .fn _ _ _,h=>h
 | .clo _ _,h=>by unfold renLf;simp only;split <;> rfl
 | .undef,h=>h
 | .top,h=>h
 | .emp _,h=>h
theorem Zh1:∀{ls:List Lf},lfsOk ls=true→lfsOk (Zga s ls)=true
 | [],h=>h
 | l :: r,h=>by
  simp only[Zga,lfsOk,Bool.and_eq_true]at h ⊢
  exact⟨ZlK h.1,Zh1 h.2⟩
theorem OR.ren {o o' : Ob} {z:Rzv} (h:OR P B ρ Z w o z) (he:renOb s o=some o'):OR P B (renR s ρ) Z w o' z:=by
 cases o with
 | box t ro cells =>
  cases he
  obtain⟨g,vs,h1,h2,h3,h4,h5⟩:=h
  exact⟨g,vs,h1,h2,h3.ren,Zh1 h4,h5⟩
 | row e m t xs=>cases he;exact h
 | hole e t xs j n =>
  unfold renOb at he
  simp only at he
  split at he
  ·
   rename_i i hi
   cases he
   obtain⟨zn,h1,h2⟩:=h
   exact⟨zn,(Zdq hi).trans h1,h2⟩
  ·
   cases he
theorem Zja (t:Nat):∀fr:List (Nat×AV),lk t (renFr s fr)=(lk t fr).map (renAV s)
 | []=>rfl
 | (n,v) :: r=>by
  by_cases h:t=n
  ·
   subst h;simp[renFr,lk]
  ·
   simp[renFr,lk,Zb7 h,Zja t r]
theorem Zir (t:Nat) (fr:List (Nat×AV)):∀(live:List Nat) (v:AV),lk t (keep fr live)=some v→lk t fr=some v
 | [],v,h=>by cases h
 | n :: r,v,h=>by
  unfold keep at h
  split at h
  ·
   rename_i v' hv
   by_cases hn:t=n
   ·
    subst hn
    simp[lk]at h
    rw[hv,h]
   ·
    simp[lk,Zb7 hn]at h
    exact Zir t fr r v h
  ·
   exact Zir t fr r v h
theorem ZeF (ob:List (Nat×Ob)):∀(l:List Nat) (i k:Nat) (o:Ob),lk k (Zc9 s ob l i)=some o→∃j T o', k=i+j∧l[j]? = some T∧lk T ob=some o' ∧ renOb s o' = some o
 | [],_,_,_,h=>by cases h
 | T :: r,i,k,o,h=>by
  unfold Zc9 at h
  have next:lk k (Zc9 s ob r (i+1))=some o→∃j T' o', k=i+j∧(T :: r)[j]? = some T' ∧ lk T' ob=some o' ∧ renOb s o' = some o:=fun h=>by
   obtain⟨j,T', o', h1,h2,h3⟩:=ZeF ob r (i+1) k o h
   exact⟨j+1,T', o', by omega,by simpa using h2,h3⟩
  split at h
  ·
   rename_i o' ho
   by_cases hk:k=i
   ·
    subst hk
    simp[lk]at h
    cases hT:lk T ob with
    | none=>rw[hT]at ho;cases ho
    | some o2 =>
     rw[hT]at ho
     exact⟨0,T,o2,rfl,rfl,hT,ho.trans (by rw[h])⟩
   ·
    simp[lk,Zb7 hk]at h
    exact next h
  ·
   exact next h
theorem ZkU {ob:List (Nat×Ob)} {k:Nat} (h:Own (renR s ρ) (look (Zc9 s ob s 0)) k):∃(i T:Nat) (z:Rzv),s[i]? = some T∧(lk T ob).isSome=true ∧ ρ T=some z∧z.F k:=by
 obtain⟨i,z,h1,h2,h3⟩:=h
 have h1:(lk i (Zc9 s ob s 0)).isSome=true:=h1
 cases hl:lk i (Zc9 s ob s 0)with
 | none=>rw[hl]at h1;cases h1
 | some o =>
  obtain⟨j,T,o', e,g2,g3,_⟩:=ZeF ob s 0 i o hl
  have e:i=j:=by omega
  subst e
  unfold renR at h2
  rw[g2]at h2
  exact⟨i,T,z,g2,by rw[g3];rfl,h2,h3⟩
theorem ZmI {ob:List (Nat×Ob)} (hn:s.Nodup) (hm:Mem P B ρ Z (look ob) w):Mem P B (renR s ρ) Z (look (Zc9 s ob s 0)) w:=by
 have get:∀i z,(lk i (Zc9 s ob s 0)).isSome=true→renR s ρ i=some z→∃T,s[i]? = some T∧(lk T ob).isSome=true ∧ ρ T=some z:=fun i z h1 h2=>by
  cases hl:lk i (Zc9 s ob s 0)with
  | none=>rw[hl]at h1;cases h1
  | some o =>
   obtain⟨j,T,o', e,g2,g3,_⟩:=ZeF ob s 0 i o hl
   have e:i=j:=by omega
   subst e
   unfold renR at h2
   rw[g2]at h2
   exact⟨T,g2,by rw[g3];rfl,h2⟩
 have own:∀k,Own (renR s ρ) (look (Zc9 s ob s 0)) k→Own ρ (look ob) k:=fun k hk=>by
  obtain⟨i,T,z,_,h2,h3,h4⟩:=ZkU hk
  exact⟨T,z,h2,h3,h4⟩
 refine⟨fun i o ho => ?_,fun i j z z' k hne h1 h2 h3 h4 h5 h6 => ?_,fun k hk=>hm.zsep k (own k hk),hm.zlt,fun k hk=>hm.bsep k (own k hk),hm.blt⟩
 ·
  obtain⟨j,T,o', e,g2,g3,g4⟩:=ZeF ob s 0 i o ho
  have e:i=j:=by omega
  subst e
  obtain⟨z,k1,k2⟩:=hm.obj T o' g3
  exact⟨z,by unfold renR;rw[g2];exact k1,k2.ren g4⟩
 ·
  obtain⟨T,a1,a2,a3⟩:=get i z h1 h3
  obtain⟨U,b1,b2,b3⟩:=get j z' h2 h4
  refine hm.sep T U z z' k (fun e=>hne ?_) a2 b2 a3 b3 h5 h6
  subst e
  have hi:=(List.getElem?_eq_some_iff.1 a1).1
  have hj:=(List.getElem?_eq_some_iff.1 b1).1
  exact(List.getElem?_inj hi hn).1 (a1.trans b1.symm)
end
section
variable {P:Program} {B:Nat→Prop} {n pin:Nat} {ρ0:Rz} {Z0:Nat→Prop} {ob0:Obs} {w0:World} {a:Act} {w:World}
abbrev At (P:Program) (B:Nat→Prop) (n pin:Nat) (ρ0:Rz) (Z0:Nat→Prop) (ob0:Obs) (w0:World) (σ : St) (a:Act) (w:World):Prop:=HldS P B n (Bas pin ρ0 Z0 ob0 w0) σ a w
theorem ZkA {σ : St} (h:At P B n pin ρ0 Z0 ob0 w0 σ a w) (live:List Nat):At P B n pin ρ0 Z0 ob0 w0 (σ.norm pin live) a w:=by
 obtain⟨ρ,Z,L,h1,h2,h3,h4,h5,h6,h7⟩:=h
 have e:∃l,σ.norm pin live=⟨renFr (reach σ.ob 100000 l (List.range pin)) (keep σ.fr live),Zc9 (reach σ.ob 100000 l (List.range pin)) σ.ob (reach σ.ob 100000 l (List.range pin)) 0,(reach σ.ob 100000 l (List.range pin)).length⟩:=⟨_,rfl⟩
 obtain⟨l,e⟩:=e
 rw[e]
 generalize hs:reach σ.ob 100000 l (List.range pin)=s
 have hn:s.Nodup:=hs ▸ ZcJ σ.ob 100000 l _ List.nodup_range
 obtain⟨t,ht⟩:=Zde σ.ob 100000 l (List.range pin)
 rw[hs]at ht
 refine⟨renR s ρ,Z,_,rfl,ZmI hn h2,h3.ren (fun T hT => ?_) (fun k hk => ?_),fun t av hav => ?_,h5,h6,fun T (hT:s.length≤T) => ?_⟩
 ·
  unfold renR
  rw[ht,List.getElem?_append_left (by simpa using hT),List.getElem?_range hT]
  rfl
 ·
  obtain⟨i,T,z,_,g2,g3,g4⟩:=ZkU hk
  exact⟨T,z,g2,g3,g4⟩
 ·
  have hav:lk t (renFr s (keep σ.fr live))=some av:=hav
  rw[Zja]at hav
  cases hk:lk t (keep σ.fr live)with
  | none=>rw[hk]at hav;cases hav
  | some v =>
   rw[hk]at hav
   cases hav
   exact(h4 t v (Zir t σ.fr live v hk)).ren
 ·
  unfold renR
  rw[List.getElem?_eq_none hT];rfl
theorem ZcI (lv:List Nat):∀(l:List Nat) (ob:List (Nat×Ob)) (ρ : Rz) (Z:Nat→Prop),Mem P B ρ Z (look ob) w→∃ρ', Mem P B ρ' Z (look (Zdk lv l ob)) w∧Trn ρ Z (look ob) w ρ' Z (look (Zdk lv l ob)) w∧∀T,ρ T=none → ρ' T=none
 | [],ob,ρ,Z,hm=>⟨ρ,hm,Trn.refl _ _ _ _,fun _ h=>h⟩
 | T :: r, ob,ρ,Z,hm=>by
  unfold Zdk
  split
  ·
   rename_i e e' t xs j n ho
   split
   ·
    rename_i e2 t2 ys hn
    split
    ·
     rename_i hh _
     cases hc:Nat.beq e2 e' && !(Nat.beq n T) && !(nf e') && !(lv.contains n)with
     | false=>exact ZcI lv r ob ρ Z hm
     | true =>
      rw[Bool.and_eq_true,Bool.and_eq_true,Bool.and_eq_true,Bool.not_eq_true', Bool.not_eq_true']at hc
      obtain⟨⟨⟨he,hne⟩,hnf⟩,_⟩:=hc
      obtain rfl:=Nat.eq_of_beq_eq_true he
      obtain⟨hh⟩:=hh
      subst hh
      have hnT:n≠T:=fun e=>by subst e;simp at hne
      obtain⟨z,hz,zn,hzn,inner,h2,h3,h4,Fs,h5,h6,h7⟩:=hm.obj T _ ho
      obtain⟨zn', hzn', hrow⟩:=hm.obj n _ hn
      obtain rfl:zn' = zn:=Option.some.inj (hzn'.symm.trans hzn)
      have hTs:(lk T ob).isSome=true:=by rw[ho];rfl
      have hns:(lk n ob).isSome=true:=by rw[hn];rfl
      have hsep:∀k,z.F k→¬ zn'.F k:=fun k hk hk' => hm.sep T n z zn' k (Ne.symm hnT) hTs hns hz hzn hk hk'
      have hOf:∀k,z.F k∨zn'.F k→Of ρ [T,n] k:=fun k hk=>hk.elim (fun h=>⟨T,z,by simp,hz,h⟩) fun h=>⟨n,zn', by simp,hzn,h⟩
      have hal:Alive ob [T,n]:=fun U hU=>by
       rcases List.mem_cons.1 hU with rfl|hU
       ·
        exact hTs
       ·
        rw[List.mem_singleton.1 hU];exact hns
      obtain ⟨m1,m2⟩:=Zf1 hm (n:=T) (o := .row e true (.sl e2 t2) (List.set (α := List t2.den) xs j ys)) (z:=⟨z.hdr,fun k=>z.F k∨zn'.F k⟩) (c:=[T,n]) (del:=[n]) (w' := w) hal
       (fun U hU=>(List.mem_cons.1 hU).imp id id) (fun h=>hnT (List.mem_singleton.1 h).symm) (fun z0 h=>by rw[hz]at h;cases h;rfl) rfl rfl rfl (Nat.le_refl _)
       (fun _ z0 h k hk=>by rw[hz]at h;cases h;exact hOf k (.inl hk)) (fun _ _ _=>rfl) (fun k hk=>⟨.inl (hOf k hk),(hm.zsep k ((hOf k hk).own hal)).2⟩) (by
       refine⟨inner,by rw[List.length_set];exact h2,fun k hk => .inl (h3 k hk),fun i=>if i=j then zn'.F else Fs i,fun i p hp => ?_,fun i k hk => ?_,fun a b k hab hk => ?_⟩
       ·
        by_cases hi:i=j
        ·
         subst hi
         have hlt:=(List.getElem?_eq_some_iff.1 hp).1
         rw[List.getElem?_set_self (by simpa using hlt)]at hp
         cases hp
         rw[h4]
         simp only[if_pos]
         exact⟨zn'.hdr,rfl,hrow,fun h=>by rw[hnf]at h;cases h⟩
        ·
         rw[List.getElem?_set_ne (Ne.symm hi)]at hp
         simp only[if_neg hi]
         exact h5 i p hi hp
       ·
        by_cases hi:i=j
        ·
         simp only[if_pos hi]at hk
         exact⟨.inr hk,fun e=>hsep k (h3 k e) hk⟩
        ·
         simp only[if_neg hi]at hk
         exact⟨.inl (h6 i k hi hk).1,(h6 i k hi hk).2⟩
       ·
        by_cases ha:a=j
        ·
         have hb:b≠j:=fun e=>hab (ha.trans e.symm)
         simp only[if_pos ha]at hk
         simp only[if_neg hb]
         exact fun h=>hsep k (h6 b k hb h).1 hk
        ·
         simp only[if_neg ha]at hk
         by_cases hb:b=j
         ·
          simp only[if_pos hb]
          exact hsep k (h6 a k ha hk).1
         ·
          simp only[if_neg hb]
          exact h7 a b k hab ha hb hk)
      obtain⟨ρ', g1,g2,g3⟩:=ZcI lv r _ _ Z m1
      refine⟨ρ', g1,m2.trans g2,fun U hU=>g3 U ?_⟩
      unfold upd
      rw[if_neg fun e=>by rw[e,hz]at hU;cases hU]
      exact hU
    ·
     exact ZcI lv r ob ρ Z hm
   ·
    exact ZcI lv r ob ρ Z hm
  ·
   exact ZcI lv r ob ρ Z hm
theorem ZiZ {σ : St} (h:At P B n pin ρ0 Z0 ob0 w0 σ a w) (live:List Nat):At P B n pin ρ0 Z0 ob0 w0 (σ.close live) a w:=by
 obtain⟨ρ,Z,L,h1,h2,h3,h4,h5,h6,h7⟩:=h
 obtain⟨ρ', g1,g2,g3⟩:=ZcI (Zjl (keep σ.fr live)) (keys σ.ob) σ.ob ρ Z h2
 exact⟨ρ', Z,_,rfl,g1,h3.trn g2,fun t av hav=>(h4 t av hav).fut (g2.fut h2),h5,h6,fun T hT=>g3 T (h7 T hT)⟩
theorem Zhg:∀(l:List Nat) (ob:List (Nat×Ob)) (ρ : Rz) (Z:Nat→Prop),Mem P B ρ Z (look ob) w→∃ρ' Z', Mem P B ρ' Z' (look (shKs l ob)) w∧Trn ρ Z (look ob) w ρ' Z' (look (shKs l ob)) w∧∀T,ρ T=none → ρ' T=none
 | [],ob,ρ,Z,hm=>⟨ρ,Z,hm,Trn.refl _ _ _ _,fun _ h=>h⟩
 | T :: r,ob,ρ,Z,hm=>by
  unfold shKs
  split
  ·
   rename_i et e' t xs ho
   obtain⟨ρ2,Z2,g1,g2,g3⟩:=Zmg (L' := pts [(T,.row et false (.sl e' t) xs)] ob) hm ho (fun U=>by
    rw[Zee U _ _ (by simp[keys,nodup])]
    by_cases hU:U=T
    ·
     subst hU;simp[lk]
    ·
     simp[lk,Zb7 hU,hU])
   obtain⟨ρ3,Z3,k1,k2,k3⟩:=Zhg r _ ρ2 Z2 g1
   exact⟨ρ3,Z3,k1,g2.trans k2,fun U hU=>k3 U (g3 U hU)⟩
  ·
   exact Zhg r ob ρ Z hm
theorem sh_at {σ : St} (h:At P B n pin ρ0 Z0 ob0 w0 σ a w):At P B n pin ρ0 Z0 ob0 w0 σ.sh a w:=by
 obtain⟨ρ,Z,L,h1,h2,h3,h4,h5,h6,h7⟩:=h
 obtain⟨ρ', Z', g1,g2,g3⟩:=Zhg (keys σ.ob) σ.ob ρ Z h2
 exact⟨ρ', Z', _,rfl,g1,h3.trn g2,fun t av hav=>(h4 t av hav).fut (g2.fut h2),h5,h6,fun T hT=>g3 T (h7 T hT)⟩
theorem ZkB {E:Env} (hp:E.pin=pin) {σ : St} (h:At P B n pin ρ0 Z0 ob0 w0 σ a w) (id:Option Nat):At P B n pin ρ0 Z0 ob0 w0 (nrm E id σ) a w:=by
 unfold nrm
 split
 ·
  split
  ·
   rw[hp]
   cases E.rows.contains _ with
   | false=>exact ZkA (ZiZ h _) _
   | true=>exact sh_at (ZkA (ZiZ h _) _)
  ·
   exact h
 ·
  exact h
end
end Go.Proofs.YthmcpmnhdbeahaaGreat.D
namespace Go.Proofs.YthmcpmnhdbeahaaGreat.D
open Go Go.RowKit
def Ex.to:Ex→Exit
 | .normal => .normal
 | .exit id => .exit id
 | .ret => .ret
section
variable {P:Program} {B:Nat→Prop} {E:Env} {ρ0:Rz} {Z0:Nat→Prop} {ob0:Obs} {w0:World}
theorem Zj7 {σ : St} {a:Act} {w:World} {n pin:Nat} (h:At P B n pin ρ0 Z0 ob0 w0 σ a w) {c:Operand} {m:Bool} {p:Prop} {d:Decidable p} (hc:ev σ.fr c=some (.lf (.cnd m p d))):a.eval c = .bool (bval m p d):=by
 obtain⟨ρ,Z,L,h1,h2,h3,h4,h5,h6,h7⟩:=h
 have:AR P B ρ Z w (.lf (.cnd m p d)) (a.eval c):=by
  cases c with
  | tmp t=>exact h4 t _ hc
  | const v=>exact Zgk hc
  | global g=>cases hc
  | func f=>cases hc
 exact this
theorem Zkt {c:Code} {Q:Exit→Act→World→Prop} {p:Ex×St} {f:St→Option (Ex×St)} {I:St→Act→World→Prop}
  (hbody:∀σ a w r,f σ = some r→I σ a w→c.wp P (fun e a' w' => match e with
   | .normal=>r.1 = .normal∧I r.2 a' w'
   | e=>r.1 ≠ .normal∧(∀(σ' : St),r=p→Q e a' w')) a w):∀(n:Nat) (σ : St) (a:Act) (w:World),iter f n σ = some p→I σ a w→(Code.loop c).wp P Q a w:=by
 intro n σ a w h hI
 refine wp_loop_ghost (fun n a w=>∃σ,I σ a w∧iter f n σ = some p) n ⟨σ,hI,h⟩ fun n a w ⟨σ,hI,h⟩ => ?_
 cases n with
 | zero=>cases h
 | succ n =>
  unfold iter at h
  cases hf:f σ with
  | none=>rw[hf]at h;cases h
  | some r =>
   rw[hf]at h
   refine wp_mono (hbody σ a w r hf hI) fun e a' w' hq => ?_
   obtain⟨x,s⟩:=r
   cases e with
   | normal =>
    obtain⟨h1,h2⟩:=hq
    have h1:x = .normal:=h1
    subst h1
    exact⟨n,Nat.lt_succ_self n,s,h2,h⟩
   | _ =>
    obtain⟨h1,h2⟩:=hq
    have h1:x ≠ .normal:=h1
    cases x with
    | normal=>exact absurd rfl h1
    | _=>exact h2 s (Option.some.inj h)
theorem Zju (hE:EnvOk P E) (hm:P.follows .mixedOrders=true):∀(c:Code) {β : Type} (K:Ex→St→Option β) (r : β) (σ : St) (a:Act) (w:World) (Q:Exit→Act→World→Prop),denC E c σ K=some r→At P B E.n E.pin ρ0 Z0 ob0 w0 σ a w →
  (∀ex σ' a' w', K ex σ' = some r→At P B E.n E.pin ρ0 Z0 ob0 w0 σ' a' w' → Q ex.to a' w')→c.wp P Q a w:=by
 intro c
 induction c with
 | skip =>
  intro β K r σ a w Q h hat hQ
  exact wp_skip (hQ .normal σ a w (by simpa only[denC] using h) hat)
 | region id ops draw =>
  intro β K r σ a w Q h hat hQ
  simp only[denC]at h
  obtain⟨ss,σ', h1,h2⟩:=ZdL (B:=B) (n:=E.n) hE rfl (all:=ops) _ _ _ _ (fun g b hg=>by cases hg) h
  have hn:=ZkB (E:=E) rfl hat (some id)
  have hJ:Stays (Bas E.pin ρ0 Z0 ob0 w0):=fun h t=>h.trn t
  cases draw with
  | false=>exact ZiG hJ h2 hn fun a' w' h' => hQ .normal σ' a' w' h1 h'
  | true =>
   simp only[cond_true,List.reverse_nil,List.nil_append]at h1
   cases hb:bern ops (ss.map fun s=>(s.need,s.tch))with
   | false=>rw[hb]at h1;cases h1
   | true =>
    rw[hb]at h1
    exact ZjL hm hJ (fun {ρ Z ob w} h=>h.trn ⟨rfl,rfl,rfl,Nat.le_refl _,fun _ _ _=>rfl,fun _ h => .inl h,fun _ h => .inl h,fun _ h=>h,fun _ z h=>⟨z,h,rfl⟩⟩) h2 hb hn fun a' w' h' => hQ .normal σ' a' w' h1 h'
 | seq x y ihx ihy =>
  intro β K r σ a w Q h hat hQ
  simp only[denC]at h
  refine wp_seq (ihx _ r σ a w _ h hat fun ex σ' a' w' hk hat' => ?_)
  cases ex with
  | normal=>exact ihy K r σ' a' w' Q hk hat' hQ
  | exit i=>exact hQ (.exit i) σ' a' w' hk hat'
  | ret=>exact hQ .ret σ' a' w' hk hat'
 | cond c x y ihx ihy =>
  intro β K r σ a w Q h hat hQ
  simp only[denC]at h
  split at h
  ·
   rename_i m p d hc
   have hev:=Zj7 hat hc
   refine wp_cond hev ?_
   by_cases hp:p
   ·
    rw[if_pos hp]at h
    have hv:bval m p d = !m:=by unfold bval;rw[decide_eq_true hp];cases m <;> rfl
    rw[hv]
    cases m with
    | true=>exact ihy K r σ a w Q h hat hQ
    | false=>exact ihx K r σ a w Q h hat hQ
   ·
    rw[if_neg hp]at h
    have hv:bval m p d=m:=by unfold bval;rw[decide_eq_false hp];cases m <;> rfl
    rw[hv]
    cases m with
    | true=>exact ihx K r σ a w Q h hat hQ
    | false=>exact ihy K r σ a w Q h hat hQ
  ·
   cases h
 | block id c ih =>
  intro β K r σ a w Q h hat hQ
  simp only[denC]at h
  refine wp_block (ih _ r σ a w _ h hat fun ex σ' a' w' hk hat' => ?_)
  cases ex with
  | normal=>exact hQ .normal σ' a' w' hk hat'
  | exit i =>
   show if i=id then Q .normal a' w' else Q (.exit i) a' w'
   unfold blkK at hk
   by_cases hi:i=id
   ·
    subst hi
    rw[if_pos rfl]
    simp at hk
    exact hQ .normal σ' a' w' hk hat'
   ·
    rw[if_neg hi]
    simp only[Zb7 hi,cond_false]at hk
    exact hQ (.exit i) σ' a' w' hk hat'
  | ret=>exact hQ .ret σ' a' w' hk hat'
 | loop c ih =>
  intro β K r σ a w Q h hat hQ
  simp only[denC]at h
  cases hl:loopR (fun s=>denC E c s (backK E (rid c))) (nrm E (rid c) σ)with
  | none=>rw[hl]at h;cases h
  | some p =>
   rw[hl]at h
   have h:K p.1 p.2=some r:=h
   unfold loopR at hl
   split at hl
   ·
    refine Zkt (p:=p) (I:=fun σ a w=>At P B E.n E.pin ρ0 Z0 ob0 w0 σ a w) (fun σ a w r' hf hI => ?_) _ _ a w hl (ZkB rfl hat _)
    refine ih _ r' σ a w _ hf hI fun ex σ' a' w' hk hat' => ?_
    cases ex with
    | normal =>
     have hk:some (Ex.normal,nrm E (rid c) σ')=some r' := hk
     cases hk
     exact⟨rfl,ZkB rfl hat' _⟩
    | exit i =>
     have hk:some (Ex.exit i,σ')=some r' := hk
     cases hk
     exact⟨fun h=>(by cases h),fun _ hp=>by subst hp;exact hQ (.exit i) σ' a' w' h hat'⟩
    | ret =>
     have hk:some (Ex.ret,σ')=some r' := hk
     cases hk
     exact⟨fun h=>(by cases h),fun _ hp=>by subst hp;exact hQ .ret σ' a' w' h hat'⟩
   ·
    cases hl
 | exit id =>
  intro β K r σ a w Q h hat hQ
  exact wp_exit (hQ (.exit id) σ a w (by simpa only[denC] using h) hat)
 | ret =>
  intro β K r σ a w Q h hat hQ
  exact wp_ret (hQ .ret σ a w (by simpa only[denC] using h) hat)
 | _=>intro β K r σ a w Q h hat hQ;simp[denC]at h
end
end Go.Proofs.YthmcpmnhdbeahaaGreat.D
namespace Go.Proofs.YthmcpmnhdbeahaaGreat.D
open Go Go.RowKit
section
variable {P:Program} {B Z:Nat→Prop} {w:World}
theorem Zdj {ρ : Rz}:∀(ss:List LS) (x:lsd ss) (nx:Nat) (vs:List Value),LRs P B ρ Z w (mkLfs ss x nx).1 vs→ZcW ρ ss vs (ZcF ss nx).1∧(ZcF ss nx).2=(mkLfs ss x nx).2.2
 | [],x,nx,vs,h=>⟨rfl,rfl⟩
 | .v t :: ss,x,nx,_,⟨v,vs', e,h1,h2⟩=>by
  obtain⟨k1,k2⟩:=Zdj ss x.2 nx vs' h2
  exact⟨⟨v,vs', [],_,e,rfl,rfl,k1⟩,k2⟩
 | .fn asx r :: ss,x,nx,_,⟨v,vs', e,h1,h2⟩=>by
  obtain⟨k1,k2⟩:=Zdj ss x.2 nx vs' h2
  exact⟨⟨v,vs', [],_,e,rfl,rfl,k1⟩,k2⟩
 | .own e m t :: ss,x,nx,_,⟨v,vs', e1,⟨z,h3,h4,_⟩,h2⟩=>by
  obtain⟨k1,k2⟩:=Zdj ss x.2 (nx+1) vs' h2
  exact⟨⟨v,vs', [nx],_,e1,rfl,⟨nx,z,rfl,h3,h4.symm⟩,k1⟩,k2⟩
theorem Puts.ro {T:Nat} {t:TypeId} {os:List (Nat×Ob)} {zl:List (Nat×Rzv)} {ls:List Lf} {us:List Value} {g:Nat} {F F0:Nat→Prop} (h:Puts P B Z w os zl F) (hok:lfsOk ls=true) (hl:∀ρ' : Rz,(∀T z,lk T zl=some z → ρ' T=some z)→LRs P B ρ' Z w ls us) (hg:w.heap[g]? = some (.cells us.toArray t (0,0))) (hgB:B g) (hs:∀k,F k→F0 k) (hT:T ∉ keys zl) :
  Puts P B Z w ((T,.box t true ls) :: os) ((T,⟨.pointer (some ⟨g,0,none⟩),fun _=>False⟩) :: zl) F0:=by
 have cut:∀{U:Nat} {z:Rzv},lk U ((T,(⟨.pointer (some ⟨g,0,none⟩),fun _=>False⟩:Rzv)) :: zl)=some z→(U=T∧z=⟨.pointer (some ⟨g,0,none⟩),fun _=>False⟩)∨(U≠T∧lk U zl=some z):=by
  intro U z h
  by_cases hU:U=T
  ·
   subst hU
   simp[lk]at h
   exact .inl ⟨rfl,h.symm⟩
  ·
   simp[lk,Zb7 hU]at h
   exact .inr ⟨hU,h⟩
 refine⟨by simp[keys,h.key],fun U z hz k hk => ?_,fun U U' z z' k hne hz hz' hk hk' => ?_,fun ρ' hρ U o z ho hz => ?_⟩
 ·
  rcases cut hz with ⟨_,rfl⟩|⟨_,hz⟩
  ·
   exact hk.elim
  ·
   exact hs k (h.sub U z hz k hk)
 ·
  rcases cut hz with ⟨e,rfl⟩|⟨e,hy⟩ <;> rcases cut hz' with ⟨e', rfl⟩|⟨e', hy'⟩
  ·
   exact hk
  ·
   exact hk
  ·
   exact hk'
  ·
   exact h.dis U U' z z' k hne hy hy' hk hk'
 ·
  have hp:∀U z,lk U zl=some z → ρ' U=some z:=fun U z hz=>hρ U z (by
   have hU:U≠T:=fun e=>hT (e ▸ Zcg hz)
   simp only[lk,Zb7 hU,cond_false]
   exact hz)
  rcases cut hz with ⟨rfl,rfl⟩|⟨e,hz⟩
  ·
   simp[lk]at ho
   subst ho
   exact⟨g,us,rfl,hg,hl ρ' hp,hok,(fun h=>by cases h),fun _=>hgB⟩
  ·
   simp only[lk,Zb7 e,cond_false]at ho
   exact h.ors ρ' hp U o z ho hz
def noOwn:List LS→Bool
 | []=>true
 | .own _ _ _ :: _=>false
 | .v _ :: r=>noOwn r
 | .fn _ _ :: r=>noOwn r
def roOk:List ASh→Bool
 | []=>true
 | .ptr true _ ss :: r=>noOwn ss && roOk r
 | .one _ :: r=>roOk r
 | .agg _ :: r=>roOk r
 | .eat _ _ _ :: r=>roOk r
 | .non :: r=>roOk r
 | .ptr false _ _ :: r=>roOk r
theorem Ze6:∀(ss:List LS) (x:lsd ss) (nx:Nat),noOwn ss=true→(mkLfs ss x nx).2=([],nx)∧(ZcF ss nx).2=nx
 | [],_,_,_=>⟨rfl,rfl⟩
 | .v t :: ss,x,nx,h=>Ze6 ss x.2 nx h
 | .fn asx r :: ss,x,nx,h=>Ze6 ss x.2 nx h
 | .own _ _ _ :: _,_,_,h=>by cases h
def Pars (P:Program) (B:Nat→Prop) (ρ : Rz) (Z:Nat→Prop) (w:World) (fr:List (Nat×AV)) (t:Nat) (vs:List Value):Prop:=∀u av,lk u fr=some av→∃i v,u=t+i∧vs[i]? = some v∧AR P B ρ Z w av v
theorem Pars.cons {ρ : Rz} {fr:List (Nat×AV)} {t:Nat} {v:Value} {vs:List Value} {av:AV} (h:AR P B ρ Z w av v) (h' : Pars P B ρ Z w fr (t+1) vs):Pars P B ρ Z w ((t,av) :: fr) t (v :: vs):=by
 intro u av' hu
 by_cases e:u=t
 ·
  subst e
  simp[lk]at hu
  subst hu
  exact⟨0,v,rfl,rfl,h⟩
 ·
  simp[lk,Zb7 e]at hu
  obtain⟨i,v', h1,h2,h3⟩:=h' u av' hu
  exact⟨i+1,v', by omega,by simpa using h2,h3⟩
theorem Zcu:∀(ins:List ASh) (x:lsd (flats ins)) (vs:List Value) (F:Nat→Prop) (t nx:Nat),roOk ins=true→ASRs P B Z w ins x vs F →
  ∃zl,Puts P B Z w (mkIns ins x t nx).2.1 zl F∧Range zl nx (mkIns ins x t nx).2.2 (mkIns ins x t nx).2.1∧vs.length=ins.length∧∀ρ' : Rz,(∀T z,lk T zl=some z → ρ' T=some z)→Pars P B ρ' Z w (mkIns ins x t nx).1 t vs∧Zdv ρ' ins vs (Zcd ins nx)
 | [],x,vs,F,t,nx,_,h=>by
  cases h
  exact⟨[],Puts.nil,Range.nil nx,rfl,fun ρ' _=>⟨(fun u av h=>by cases h),rfl⟩⟩
 | .one s :: r,x,_,F,t,nx,hro,⟨v,vs', F0,F1,e,h2,h3,h4,h5,h6⟩=>by
  subst e
  obtain⟨zl,k1,k2,k3,k4,k5⟩:=Zb0 [s] (x.1,()) [v] F0 nx ⟨v,[],F0,fun _=>False,rfl,h2,rfl,fun _ h=>h,fun _ h=>h.elim,fun _ _ h=>h⟩
  obtain⟨zl', m1,m2,m3,m4⟩:=Zcu r x.2 vs' F1 (t+1) (mkLfs [s] (x.1,()) nx).2.2 hro h3
  refine⟨zl++zl', Puts.append k1 m1 (k2.dis m2) h4 h5 h6,k2.append m2,by simp[m3],fun ρ' hρ => ?_⟩
  have hl:=k5 ρ' fun T z h=>hρ T z (ZfY h)
  obtain⟨b1,b2⟩:=Zdj [s] (x.1,()) nx [v] hl
  obtain⟨c1,c2⟩:=m4 ρ' fun T z h=>hρ T z (Zdo (fun hT=>k2.dis m2 T hT (Zcg h)) h)
  constructor
  ·
   refine Pars.cons ?_ c1
   have hlen:(mkLfs [s] (x.1,()) nx).1.length=1:=k4
   generalize (mkLfs [s] (x.1,()) nx).1=ls at hl hlen
   rcases ls with _|⟨l,_|⟨l', ls⟩⟩
   ·
    cases hlen
   ·
    obtain⟨v', e,hv⟩:=hl.one_inv
    cases e
    exact hv
   ·
    simp at hlen
  ·
   obtain⟨v0,vs0,t1,t2,e1,e2,e3,e4⟩:=b1
   cases e1
   cases e4
   refine⟨v,vs', (ZcF [s] nx).1,Zcd r (mkLfs [s] (x.1,()) nx).2.2,rfl,?_,?_,c2⟩
   ·
    show(ZcF [s] nx).1++Zcd r (ZcF [s] nx).2=_
    rw[b2]
   ·
    rw[e2,List.append_nil];exact e3
 | .non :: r,x,_,F,t,nx,hro,⟨v,vs', F0,F1,e,h2,h3,h4,h5,h6⟩=>by
  subst e
  obtain⟨zl', m1,m2,m3,m4⟩:=Zcu r x vs' F1 (t+1) nx hro h3
  refine⟨zl', ⟨m1.key,fun T z h k hk=>h5 k (m1.sub T z h k hk),m1.dis,m1.ors⟩,m2,by simp[m3],fun ρ' hρ => ?_⟩
  obtain⟨c1,c2⟩:=m4 ρ' hρ
  exact⟨Pars.cons (show AR P B ρ' Z w (.lf .nil) v from h2) c1,v,vs', [],Zcd r nx,rfl,rfl,rfl,c2⟩
 | .eat e' m' t' :: r,x,_,F,t,nx,hro,⟨v,vs', F0,F1,e,h2,h3,h4,h5,h6⟩=>by
  subst e
  obtain⟨zl,k1,k2,k3,k4,k5⟩:=Zb0 [.own e' m' t'] (x.1,()) [v] F0 nx ⟨v,[],F0,fun _=>False,rfl,h2,rfl,fun _ h=>h,fun _ h=>h.elim,fun _ _ h=>h⟩
  obtain⟨zl', m1,m2,m3,m4⟩:=Zcu r x.2 vs' F1 (t+1) (mkLfs [.own e' m' t'] (x.1,()) nx).2.2 hro h3
  refine⟨zl++zl', Puts.append k1 m1 (k2.dis m2) h4 h5 h6,k2.append m2,by simp[m3],fun ρ' hρ => ?_⟩
  have hl:=k5 ρ' fun T z h=>hρ T z (ZfY h)
  obtain⟨b1,b2⟩:=Zdj [.own e' m' t'] (x.1,()) nx [v] hl
  obtain⟨c1,c2⟩:=m4 ρ' fun T z h=>hρ T z (Zdo (fun hT=>k2.dis m2 T hT (Zcg h)) h)
  constructor
  ·
   refine Pars.cons ?_ c1
   obtain⟨v', vs0,e,hv,_⟩:=hl
   cases e
   exact(show AR P B ρ' Z w (.lf (.own nx)) v from hv)
  ·
   refine⟨v,vs', [],Zcd r (mkLfs [.own e' m' t'] (x.1,()) nx).2.2,rfl,?_,rfl,c2⟩
   show Zcd r (nx+1)=_
   rfl
 | .agg ss :: r,x,_,F,t,nx,hro,⟨v,vs', F0,F1,e,⟨us,e2,h2⟩,h3,h4,h5,h6⟩=>by
  subst e
  obtain⟨zl,k1,k2,k3,k4,k5⟩:=Zb0 ss (ZaG ss (flats r) x).1 us F0 nx h2
  obtain⟨zl', m1,m2,m3,m4⟩:=Zcu r (ZaG ss (flats r) x).2 vs' F1 (t+1) (mkLfs ss (ZaG ss (flats r) x).1 nx).2.2 hro h3
  refine⟨zl++zl', Puts.append k1 m1 (k2.dis m2) h4 h5 h6,k2.append m2,by simp[m3],fun ρ' hρ => ?_⟩
  have hl:=k5 ρ' fun T z h=>hρ T z (ZfY h)
  obtain⟨b1,b2⟩:=Zdj ss _ nx us hl
  obtain⟨c1,c2⟩:=m4 ρ' fun T z h=>hρ T z (Zdo (fun hT=>k2.dis m2 T hT (Zcg h)) h)
  exact⟨Pars.cons (av := .agg _) ⟨us,e2,hl⟩ c1,v,vs', (ZcF ss nx).1,Zcd r (mkLfs ss (ZaG ss (flats r) x).1 nx).2.2,rfl,by
   show(ZcF ss nx).1++Zcd r (ZcF ss nx).2=_
   rw[b2],⟨us,e2,b1⟩,c2⟩
 | .ptr true ty ss :: r,x,_,F,t,nx,hro,⟨v,vs', F0,F1,e,⟨g,us,F', e2,e3,h2,gB⟩,h3,h4,h5,h6⟩=>by
  subst e
  subst e2
  rw[roOk,Bool.and_eq_true]at hro
  obtain⟨n1,n2⟩:=Ze6 ss (ZaG ss (flats r) x).1 (nx+1) hro.1
  obtain⟨zl,k1,k2,k3,k4,k5⟩:=Zb0 ss (ZaG ss (flats r) x).1 us F' (nx+1) h2
  obtain⟨zl', m1,m2,m3,m4⟩:=Zcu r (ZaG ss (flats r) x).2 vs' F1 (t+1) (mkLfs ss (ZaG ss (flats r) x).1 (nx+1)).2.2 hro.2 h3
  have hz:zl=[]:=by
   have:=k1.key
   rw[n1]at this
   cases zl with
   | nil=>rfl
   | cons a l=>cases this
  subst hz
  have hR:=Range.one nx ⟨.pointer (some ⟨g,0,none⟩),fun _=>False⟩ (.box ty true (mkLfs ss (ZaG ss (flats r) x).1 (nx+1)).1)
  have hB:=Puts.ro (T:=nx) (t:=ty) (F0:=F0) (os:=(mkLfs ss (ZaG ss (flats r) x).1 (nx+1)).2.1) (F:=fun _=>False) (by rw[n1];exact Puts.nil) k3 k5 e3 gB (fun k hk=>hk.elim) (fun hT=>by cases hT)
  have hR2:=hR.append k2
  refine⟨((nx,(⟨.pointer (some ⟨g,0,none⟩),fun _=>False⟩:Rzv)) :: [])++zl', Puts.append hB m1 (hR2.dis m2) h4 h5 h6,hR2.append m2,by simp[m3],fun ρ' hρ => ?_⟩
  have hnx:=hρ nx _ (ZfX _ _ _)
  obtain⟨c1,c2⟩:=m4 ρ' fun T z h=>hρ T z (Zdo (fun hT=>hR2.dis m2 T hT (Zcg h)) h)
  refine⟨Pars.cons (av := .lf (.box nx 0)) ⟨_,g,hnx,rfl,rfl⟩ c1,_,vs', [],Zcd r (mkLfs ss (ZaG ss (flats r) x).1 (nx+1)).2.2,rfl,?_,rfl,c2⟩
  show(bif true then Zcd r (ZcF ss (nx+1)).2 else nx :: Zcd r (ZcF ss (nx+1)).2)=_
  rw[n2,n1];rfl
 | .ptr false ty ss :: r,x,_,F,t,nx,hro,⟨v,vs', F0,F1,e,⟨g,us,F', e2,e3,h2,g1,g2,g3⟩,h3,h4,h5,h6⟩=>by
  subst e
  subst e2
  obtain⟨zl,k1,k2,k3,k4,k5⟩:=Zb0 ss (ZaG ss (flats r) x).1 us F' (nx+1) h2
  obtain⟨zl', m1,m2,m3,m4⟩:=Zcu r (ZaG ss (flats r) x).2 vs' F1 (t+1) (mkLfs ss (ZaG ss (flats r) x).1 (nx+1)).2.2 hro h3
  have hR:=Range.one nx ⟨.pointer (some ⟨g,0,none⟩),fun k=>k=g⟩ (.box ty false (mkLfs ss (ZaG ss (flats r) x).1 (nx+1)).1)
  have hB:=Puts.box (T:=nx) (t:=ty) k1 k3 k5 e3 g2 (F0:=F0) (fun k hk=>by cases hk;exact g1) g3 (fun hT=>hR.dis k2 nx (List.mem_singleton.2 rfl) hT)
  have hR2:=hR.append k2
  refine⟨((nx,⟨.pointer (some ⟨g,0,none⟩),fun k=>k=g⟩) :: zl)++zl', Puts.append hB m1 (hR2.dis m2) h4 h5 h6,hR2.append m2,by simp[m3],fun ρ' hρ => ?_⟩
  have hnx:=hρ nx _ (ZfX _ _ _)
  have hzl:∀T z,lk T zl=some z → ρ' T=some z:=fun T z h=>hρ T z (ZfY (by
   have:=(k2.lo T (Zcg h)).1
   simp only[lk,Zb7 (show T≠nx by omega),cond_false]
   exact h))
  have hl:=k5 ρ' hzl
  obtain⟨b1,b2⟩:=Zdj ss _ (nx+1) us hl
  obtain⟨c1,c2⟩:=m4 ρ' fun T z h=>hρ T z (Zdo (fun hT=>hR2.dis m2 T hT (Zcg h)) h)
  refine⟨Pars.cons (av := .lf (.box nx 0)) ⟨_,g,hnx,rfl,rfl⟩ c1,_,vs', [nx],Zcd r (mkLfs ss (ZaG ss (flats r) x).1 (nx+1)).2.2,rfl,?_,⟨nx,_,rfl,hnx,rfl⟩,c2⟩
  show(bif false then Zcd r (ZcF ss (nx+1)).2 else nx :: Zcd r (ZcF ss (nx+1)).2)=_
  rw[b2];rfl
end
end Go.Proofs.YthmcpmnhdbeahaaGreat.D
namespace Go.Proofs.YthmcpmnhdbeahaaGreat.D
open Go Go.RowKit
section
variable {P:Program} {B Z:Nat→Prop} {ρ : Rz} {ob:List (Nat×Ob)} {w:World} {β γ : Type} {KK : γ → List Nat→Option β} {r : β}
theorem ZfC {T:Nat} {o:Ob} (h:lk T ob=some o):Alive ob [T]:=fun U hU=>by rw[List.mem_singleton.1 hU,h];rfl
theorem ZfW (hm:Mem P B ρ Z (look ob) w):∀(s:LS) (l:Lf) (v:Value) (nd:List Nat) (K:s.den→List Nat→Pg γ),(lfDen s l K).run ob KK nd=some r→LR P B ρ Z w l v →
  ∃x c nd', (K x c).run ob KK nd' = some r∧LSR P B Z w s x v (Of ρ c)∧Alive ob c
 | .v t,l,v,nd,K,h,hl=>by
  obtain⟨x,c,nd1,h,htell,hal⟩:=Zd0 hm h hl
  exact⟨x,c,nd1,h,htell,hal⟩
 | .fn asx rt,l,v,nd,K,h,hl=>by cases l <;> cases h
 | .own e m t,l,v,nd,K,h,hl=>by
  cases l <;> first|(cases h;done)|skip
  case nil =>
   have hl:v = .slice none 0 0:=hl
   subst hl
   exact⟨_,[],nd,h,⟨[],World.ownsRow_nil w 0 e t.size,(fun k hk=>by cases hk),fun _ _=>False,(fun j p hp=>by simp at hp),(fun _ _ h=>h.elim),fun _ _ _ _ h=>h.elim⟩,Alive.nil⟩
  case own T =>
   simp only[lfDen,ZbS]at h
   obtain⟨o,ho,h⟩:=h
   cases o with
   | box _ _ _=>cases h
   | hole _ _ _ _ _=>cases h
   | row e' m' t' xs =>
    simp only[Zba]at h
    obtain⟨hc,h⟩:=h
    rw[Bool.and_eq_true]at hc
    obtain⟨he,hc⟩:=hc
    obtain rfl:=Nat.eq_of_beq_eq_true he
    cases hq:Ty.eq? t' t with
    | none=>rw[hq]at h;cases h
    | some hh =>
     rw[hq]at h
     obtain⟨hh⟩:=hh
     subst hh
     obtain⟨z,hz,rfl,hone⟩:=hl
     obtain⟨z', hz', hr⟩:=hm.obj T _ ho
     obtain rfl:z' = z:=Option.some.inj (hz'.symm.trans hz)
     exact⟨xs,[T],_,h,Zji hr hz hc,ZfC ho⟩
theorem Zef (hm:Mem P B ρ Z (look ob) w) {a b:List Nat} (ha:Alive ob a) (hb:Alive ob b) (hn:nodup (a++b)=true):∀k,Of ρ a k→¬ Of ρ b k:=fun k hk=>Of.sep hm ha hb (nodup_append hn).2.2 hk
theorem Zc5 (hm:Mem P B ρ Z (look ob) w):∀(ss:List LS) (ls:List Lf) (vs:List Value) (nd:List Nat) (K:lsd ss→List Nat→Pg γ),(ZhL ss ls K).run ob KK nd=some r→LRs P B ρ Z w ls vs →
  ∃x c nd', (K x c).run ob KK nd' = some r∧(nodup c=true→LSRs P B Z w ss x vs (Of ρ c))∧Alive ob c
 | [],[],vs,nd,K,h,hl=>⟨(),[],nd,h,fun _=>hl,Alive.nil⟩
 | [],_ :: _,vs,nd,K,h,hl=>by cases h
 | s :: ss,[],vs,nd,K,h,hl=>by cases h
 | s :: ss,l :: ls,vs,nd,K,h,⟨v,vs', e,h1,h2⟩=>by
  subst e
  obtain⟨x,c,nd1,h,k1,k2⟩:=ZfW hm s l v nd _ h h1
  obtain⟨y,c', nd2,h,k3,k4⟩:=Zc5 hm ss ls vs' nd1 _ h h2
  exact⟨(x,y),c++c', nd2,h,fun hn=>⟨v,vs', _,_,rfl,k1,k3 (nodup_append hn).2.1,fun k hk=>hk.left,fun k hk=>hk.right,Zef hm k2 k4 hn⟩,k2.append k4⟩
theorem ZjY (hm:Mem P B ρ Z (look ob) w) {T:Nat} {bt:TypeId} {cells:List Lf} (ho:lk T ob=some (.box bt false cells)) {v:Value} {z0:Rzv} (hz0 : ρ T=some z0) (hv:z0.hdr=v):∃g vs,v = .pointer (some ⟨g,0,none⟩)∧w.heap[g]? = some (.cells vs.toArray bt (0,0))∧LRs P B ρ Z w cells vs∧∀c,Alive ob c→nodup (T :: c)=true→Of ρ (T :: c) g∧¬ Of ρ c g∧∀k,Of ρ c k→Of ρ (T :: c) k:=by
 obtain⟨z,hz,g,vs,h1,h2,h3,h4,h5,h6⟩:=hm.obj T _ ho
 obtain rfl:z=z0:=Option.some.inj (hz.symm.trans hz0)
 refine⟨g,vs,hv ▸ h1,h2,h3,fun c hc hn=>⟨⟨T,z,List.mem_cons_self,hz,h5 rfl⟩,fun hk => ?_,fun k ⟨U,zu,k1,k2⟩=>⟨U,zu,List.mem_cons_of_mem _ k1,k2⟩⟩⟩
 exact Zef hm (ZfC ho) hc hn g ⟨T,z,List.mem_singleton.2 rfl,hz,h5 rfl⟩ hk
theorem Zda (hm:Mem P B ρ Z (look ob) w):∀(outs:List ASh) (avs:List AV) (us:List Value) (nd:List Nat) (K:lsd (flats outs)→List Nat→Pg γ),(ZgA outs avs K).run ob KK nd=some r→AVs P B ρ Z w avs us →
  ∃y c nd', (K y c).run ob KK nd' = some r∧(nodup c=true→ASRs P B Z w outs y us (Of ρ c))∧Alive ob c
 | [],[],us,nd,K,h,hl=>⟨(),[],nd,h,fun _=>hl,Alive.nil⟩
 | [],_ :: _,us,nd,K,h,hl=>by cases h
 | .one s :: outs,avs,us,nd,K,h,hl=>by
  rcases avs with _|⟨av,avs⟩
  ·
   cases h
  ·
   cases av <;> first|(cases h;done)|skip
   rename_i l
   obtain⟨v,vs', rfl,h1,h2⟩:=hl
   obtain⟨x,c,nd1,h,k1,k2⟩:=ZfW hm s l v nd _ h h1
   obtain⟨y,c', nd2,h,k3,k4⟩:=Zda hm outs avs vs' nd1 _ h h2
   exact⟨_,c++c', nd2,h,fun hn=>⟨v,vs', _,_,rfl,k1,k3 (nodup_append hn).2.1,fun k hk=>hk.left,fun k hk=>hk.right,Zef hm k2 k4 hn⟩,k2.append k4⟩
 | .eat _ _ _ :: outs,avs,us,nd,K,h,hl=>by
  rcases avs with _|⟨av,avs⟩
  ·
   cases h
  ·
   cases av <;> cases h
 | .non :: outs,avs,us,nd,K,h,hl=>by
  rcases avs with _|⟨av,avs⟩
  ·
   cases h
  ·
   cases av <;> cases h
 | .agg ss :: outs,avs,us,nd,K,h,hl=>by
  rcases avs with _|⟨av,avs⟩
  ·
   cases h
  ·
   cases av <;> first|(cases h;done)|skip
   rename_i ls
   obtain⟨v,vs', rfl,⟨us', e,h1⟩,h2⟩:=hl
   obtain⟨x,c,nd1,h,k1,k2⟩:=Zc5 hm ss ls us' nd _ h h1
   obtain⟨y,c', nd2,h,k3,k4⟩:=Zda hm outs avs vs' nd1 _ h h2
   refine⟨_,c++c', nd2,h,fun hn=>⟨v,vs', Of ρ c,Of ρ c', rfl,?_,?_,fun k hk=>hk.left,fun k hk=>hk.right,Zef hm k2 k4 hn⟩,k2.append k4⟩
   ·
    show ASR P B Z w (.agg ss) (ZaG ss (flats outs) _).1 v _
    rw[ZbR]
    exact⟨us', e,k1 (nodup_append hn).1⟩
   ·
    show ASRs P B Z w outs (ZaG ss (flats outs) _).2 vs' _
    rw[ZbR]
    exact k3 (nodup_append hn).2.1
 | .ptr ro t ss :: outs,avs,us,nd,K,h,hl=>by
  rcases avs with _|⟨av,avs⟩
  ·
   cases ro <;> cases h
  ·
   cases ro with
   | true=>cases av <;> cases h
   | false =>
    cases av <;> first|(cases h;done)|skip
    rename_i l
    cases l <;> first|(cases h;done)|skip
    rename_i T off
    cases off with
    | succ _=>cases h
    | zero =>
     obtain⟨v,vs', rfl,⟨z0,g0,hz0,hg0,hv⟩,h2⟩:=hl
     simp only[ZgA,ZbS]at h
     obtain⟨o,ho,h⟩:=h
     cases o with
     | row _ _ _ _=>cases h
     | hole _ _ _ _ _=>cases h
     | box bt ro cells =>
      cases ro with
      | true=>cases h
      | false =>
       simp only[Zba]at h
       obtain⟨hb,h⟩:=h
       obtain rfl:=Nat.eq_of_beq_eq_true hb
       obtain⟨g,cs,e1,e2,e3,e4⟩:=ZjY hm ho hz0 (v:=v) (hg0.trans hv.symm)
       obtain⟨x,c,nd1,h,k1,k2⟩:=Zc5 hm ss cells cs _ _ h e3
       obtain⟨y,c', nd2,h,k3,k4⟩:=Zda hm outs avs vs' nd1 _ h h2
       have hal:Alive ob (T :: c):=fun U hU=>(List.mem_cons.1 hU).elim (fun e=>by rw[e,ho];rfl) (k2 U)
       refine⟨_,T :: c++c', nd2,h,fun hn=>⟨v,vs', Of ρ (T :: c),Of ρ c', rfl,?_,?_,fun k hk=>hk.left,fun k hk=>hk.right,Zef hm hal k4 hn⟩,hal.append k4⟩
       ·
        show ASR P B Z w (.ptr false _ ss) (ZaG ss (flats outs) _).1 v _
        rw[ZbR]
        have hn1:=(nodup_append hn).1
        exact⟨g,cs,Of ρ c,e1,e2,k1 (by simp only[nodup,Bool.and_eq_true]at hn1;exact hn1.2),e4 c k2 hn1⟩
       ·
        show ASRs P B Z w outs (ZaG ss (flats outs) _).2 vs' _
        rw[ZbR]
        exact k3 (nodup_append hn).2.1
theorem Zev (hm:Mem P B ρ Z (look ob) w):∀(s:LS) (v:Value) (ts Ts:List Nat) (nd:List Nat) (K:lsd s.back→List Nat→List Nat→Pg γ),(ZgO s (ts++Ts) K).run ob KK nd=some r→ZfB ρ s v ts →
  ∃x c nd', (K x Ts c).run ob KK nd' = some r∧IoLS Z w s v x (Of ρ c)∧Alive ob c
 | .v t,v,ts,Ts,nd,K,h,hb=>by
  cases hb
  exact⟨(),[],nd,h,trivial,Alive.nil⟩
 | .fn asx rt,v,ts,Ts,nd,K,h,hb=>by
  cases hb
  exact⟨(),[],nd,h,trivial,Alive.nil⟩
 | .own e m t,v,ts,Ts,nd,K,h,hb=>by
  obtain⟨T,z,rfl,hz,hv⟩:=hb
  simp only[List.singleton_append,ZgO,ZbS]at h
  obtain⟨o,ho,h⟩:=h
  cases o with
  | box _ _ _=>cases h
  | hole _ _ _ _ _=>cases h
  | row e' m' t' xs =>
   simp only[Zba]at h
   obtain⟨hc,h⟩:=h
   rw[Bool.and_eq_true]at hc
   obtain⟨he,hc⟩:=hc
   obtain rfl:=Nat.eq_of_beq_eq_true he
   cases hq:Ty.eq? t' t with
   | none=>rw[hq]at h;cases h
   | some hh =>
    rw[hq]at h
    obtain⟨hh⟩:=hh
    subst hh
    obtain⟨z', hz', hr⟩:=hm.obj T _ ho
    obtain rfl:z' = z:=Option.some.inj (hz'.symm.trans hz)
    subst hv
    exact⟨(xs,()),[T],_,h,Zji hr hz hc,ZfC ho⟩
theorem Zd8 (hm:Mem P B ρ Z (look ob) w):∀(ss:List LS) (vs:List Value) (ts Ts:List Nat) (nd:List Nat) (K:lsd (backs ss)→List Nat→List Nat→Pg γ),(ZgP ss (ts++Ts) K).run ob KK nd=some r→ZcW ρ ss vs ts →
  ∃x c nd', (K x Ts c).run ob KK nd' = some r∧(nodup c=true→IoLSs Z w ss vs x (Of ρ c))∧Alive ob c
 | [],vs,ts,Ts,nd,K,h,hb=>by
  cases hb
  exact⟨(),[],nd,h,fun _=>trivial,Alive.nil⟩
 | s :: ss,vs,ts,Ts,nd,K,h,⟨v,vs', t1,t2,e1,e2,b1,b2⟩=>by
  subst e1
  subst e2
  rw[List.append_assoc]at h
  obtain⟨x,c,nd1,h,k1,k2⟩:=Zev hm s v t1 (t2++Ts) nd _ h b1
  obtain⟨y,c', nd2,h,k3,k4⟩:=Zd8 hm ss vs' t2 Ts nd1 _ h b2
  refine⟨_,c++c', nd2,h,fun hn=>⟨v,vs', Of ρ c,Of ρ c', rfl,?_,?_,fun k hk=>hk.left,fun k hk=>hk.right,Zef hm k2 k4 hn⟩,k2.append k4⟩
  ·
   rw[ZbR];exact k1
  ·
   rw[ZbR];exact k3 (nodup_append hn).2.1
theorem Zcs (hm:Mem P B ρ Z (look ob) w):∀(ins:List ASh) (vs:List Value) (Ts:List Nat) (nd:List Nat) (K:lsd (ios ins)→List Nat→Pg γ),(ioDen ins Ts K).run ob KK nd=some r→Zdv ρ ins vs Ts →
  ∃x c nd', (K x c).run ob KK nd' = some r∧(nodup c=true→IoRs P B Z w ins vs x (Of ρ c))∧Alive ob c
 | [],vs,Ts,nd,K,h,hb=>by
  cases hb
  exact⟨(),[],nd,h,fun _=>trivial,Alive.nil⟩
 | .one s :: ins,vs,Ts,nd,K,h,⟨v,vs', t1,t2,e1,e2,b1,b2⟩=>by
  subst e1
  subst e2
  obtain⟨x,c,nd1,h,k1,k2⟩:=Zev hm s v t1 t2 nd _ h b1
  obtain⟨y,c', nd2,h,k3,k4⟩:=Zcs hm ins vs' t2 nd1 _ h b2
  refine⟨_,c++c', nd2,h,fun hn=>⟨v,vs', Of ρ c,Of ρ c', rfl,?_,?_,fun k hk=>hk.left,fun k hk=>hk.right,Zef hm k2 k4 hn⟩,k2.append k4⟩
  ·
   show IoR P B Z w (.one s) v (ZaG s.back (ios ins) _).1 _
   rw[ZbR];exact k1
  ·
   show IoRs P B Z w ins vs' (ZaG s.back (ios ins) _).2 _
   rw[ZbR];exact k3 (nodup_append hn).2.1
 | .agg ss :: ins,vs,Ts,nd,K,h,⟨v,vs', t1,t2,e1,e2,⟨us,e3,b1⟩,b2⟩=>by
  subst e1
  subst e2
  obtain⟨x,c,nd1,h,k1,k2⟩:=Zd8 hm ss us t1 t2 nd _ h b1
  obtain⟨y,c', nd2,h,k3,k4⟩:=Zcs hm ins vs' t2 nd1 _ h b2
  refine⟨_,c++c', nd2,h,fun hn=>⟨v,vs', Of ρ c,Of ρ c', rfl,?_,?_,fun k hk=>hk.left,fun k hk=>hk.right,Zef hm k2 k4 hn⟩,k2.append k4⟩
  ·
   show IoR P B Z w (.agg ss) v (ZaG (backs ss) (ios ins) _).1 _
   rw[ZbR];exact⟨us,e3,k1 (nodup_append hn).1⟩
  ·
   show IoRs P B Z w ins vs' (ZaG (backs ss) (ios ins) _).2 _
   rw[ZbR];exact k3 (nodup_append hn).2.1
 | .ptr true t ss :: ins,vs,Ts,nd,K,h,⟨v,vs', t1,t2,e1,e2,b1,b2⟩=>by
  subst e1
  subst e2
  cases b1
  obtain⟨y,c', nd2,h,k3,k4⟩:=Zcs hm ins vs' t2 nd _ h b2
  exact⟨y,c', nd2,h,fun hn=>⟨v,vs', fun _=>False,Of ρ c', rfl,trivial,k3 hn,fun k hk=>hk.elim,fun k hk=>hk,fun k hk=>hk.elim⟩,k4⟩
 | .non :: ins,vs,Ts,nd,K,h,⟨v,vs', t1,t2,e1,e2,b1,b2⟩=>by
  subst e1
  subst e2
  cases b1
  obtain⟨y,c', nd2,h,k3,k4⟩:=Zcs hm ins vs' t2 nd _ h b2
  exact⟨y,c', nd2,h,fun hn=>⟨v,vs', fun _=>False,Of ρ c', rfl,trivial,k3 hn,fun k hk=>hk.elim,fun k hk=>hk,fun k hk=>hk.elim⟩,k4⟩
 | .eat _ _ _ :: ins,vs,Ts,nd,K,h,⟨v,vs', t1,t2,e1,e2,b1,b2⟩=>by
  subst e1
  subst e2
  cases b1
  obtain⟨y,c', nd2,h,k3,k4⟩:=Zcs hm ins vs' t2 nd _ h b2
  exact⟨y,c', nd2,h,fun hn=>⟨v,vs', fun _=>False,Of ρ c', rfl,trivial,k3 hn,fun k hk=>hk.elim,fun k hk=>hk,fun k hk=>hk.elim⟩,k4⟩
 | .ptr false t ss :: ins,vs,Ts,nd,K,h,⟨v,vs', t1,t2,e1,e2,⟨T,z0,e3,hz0,hv⟩,b2⟩=>by
  subst e1
  subst e2
  subst e3
  simp only[List.singleton_append,ioDen,ZbS]at h
  obtain⟨o,ho,h⟩:=h
  cases o with
  | row _ _ _ _=>cases h
  | hole _ _ _ _ _=>cases h
  | box bt ro cells =>
   cases ro with
   | true=>cases h
   | false =>
    simp only[Zba]at h
    obtain⟨hb,h⟩:=h
    obtain rfl:=Nat.eq_of_beq_eq_true hb
    obtain⟨g,cs,e1,e2,e3,e4⟩:=ZjY hm ho hz0 hv
    obtain⟨x,c,nd1,h,k1,k2⟩:=Zc5 hm ss cells cs _ _ h e3
    obtain⟨y,c', nd2,h,k3,k4⟩:=Zcs hm ins vs' t2 nd1 _ h b2
    have hal:Alive ob (T :: c):=fun U hU=>(List.mem_cons.1 hU).elim (fun e=>by rw[e,ho];rfl) (k2 U)
    refine⟨_,T :: c++c', nd2,h,fun hn=>⟨v,vs', Of ρ (T :: c),Of ρ c', rfl,?_,?_,fun k hk=>hk.left,fun k hk=>hk.right,Zef hm hal k4 hn⟩,hal.append k4⟩
    ·
     show IoR P B Z w (.ptr false _ ss) v (ZaG ss (ios ins) _).1 _
     rw[ZbR]
     have hn1:=(nodup_append hn).1
     exact⟨g,cs,Of ρ c,e1,e2,k1 (by simp only[nodup,Bool.and_eq_true]at hn1;exact hn1.2),e4 c k2 hn1⟩
    ·
     show IoRs P B Z w ins vs' (ZaG ss (ios ins) _).2 _
     rw[ZbR]
     exact k3 (nodup_append hn).2.1
theorem ZcW.mono {ρ' : Rz}:∀{ss:List LS} {vs:List Value} {Ts:List Nat},(∀T∈Ts,∀z,ρ T=some z→∃z', ρ' T=some z' ∧ z'.hdr=z.hdr)→ZcW ρ ss vs Ts→ZcW ρ' ss vs Ts
 | [],_,_,_,h=>h
 | s :: ss,_,_,hh,⟨v,vs', t1,t2,e1,e2,b1,b2⟩=>⟨v,vs', t1,t2,e1,e2,backLS_mono (fun T hT=>hh T (e2 ▸ List.mem_append_left _ hT)) b1,ZcW.mono (fun T hT=>hh T (e2 ▸ List.mem_append_right _ hT)) b2⟩
where
 backLS_mono {ρ' : Rz} {s:LS} {v:Value} {Ts:List Nat} (hh:∀T∈Ts,∀z,ρ T=some z→∃z', ρ' T=some z' ∧ z'.hdr=z.hdr) (h:ZfB ρ s v Ts):ZfB ρ' s v Ts:=by
  cases s with
  | v t=>exact h
  | fn asx rt=>exact h
  | own e m t =>
   obtain⟨T,z,rfl,h1,h2⟩:=h
   obtain⟨z', h3,h4⟩:=hh T (List.mem_singleton.2 rfl) z h1
   exact⟨T,z', rfl,h3,h4.trans h2⟩
theorem Zdv.mono {ρ' : Rz}:∀{ins:List ASh} {vs:List Value} {Ts:List Nat},(∀T∈Ts,∀z,ρ T=some z→∃z', ρ' T=some z' ∧ z'.hdr=z.hdr)→Zdv ρ ins vs Ts→Zdv ρ' ins vs Ts
 | [],_,_,_,h=>h
 | a :: ins,_,_,hh,⟨v,vs', t1,t2,e1,e2,b1,b2⟩=>by
  have h1:∀T∈t1,∀z,ρ T=some z→∃z', ρ' T=some z' ∧ z'.hdr=z.hdr:=fun T hT=>hh T (e2 ▸ List.mem_append_left _ hT)
  refine⟨v,vs', t1,t2,e1,e2,?_,Zdv.mono (fun T hT=>hh T (e2 ▸ List.mem_append_right _ hT)) b2⟩
  cases a with
  | eat _ _ _=>exact b1
  | non=>exact b1
  | one s=>exact ZcW.mono.backLS_mono h1 b1
  | agg ss =>
   obtain⟨us,k1,k2⟩:=b1
   exact⟨us,k1,k2.mono h1⟩
  | ptr ro t ss =>
   cases ro with
   | true=>exact b1
   | false =>
    obtain⟨T,z,rfl,k1,k2⟩:=b1
    obtain⟨z', k3,k4⟩:=h1 T (List.mem_singleton.2 rfl) z k1
    exact⟨T,z', rfl,k3,k4.trans k2⟩
inductive Each {α δ : Type} (R : α → δ → Prop):List α → List δ → Prop where
 | nil:Each R [] []
 | cons {a : α} {b : δ} {l:List α} {m:List δ}:R a b→Each R l m→Each R (a :: l) (b :: m)
def Zfo (tmps:Array Value):ResultVar→Sem Value
 | .tmp t=>pure (tmps.getD t undef)
 | .cell a t=>do loadVar t (←asAddr (tmps.getD a undef))
theorem ZjM (fn:Func) (tmps:Array Value):results fn tmps=(do
  let vs ←fn.results.mapM (Zfo tmps)
  pure (if h:vs.size=1 then vs[0]else .tuple vs)):=rfl
theorem Zjb {tmps:Array Value}:∀(l:List ResultVar) (us:List Value),Each (fun x u=>(Zfo tmps x).run P w = .ok u w) l us→(l.mapM (Zfo tmps)).run P w = .ok us w
 | [],_,.nil=>by simp
 | x :: l,_,.cons (b:=u) h hs=>by
  rw[List.mapM_cons]
  simp[h,Zjb l _ hs]
theorem ZiH {fn:Func} {tmps:Array Value} {us:List Value} (h:Each (fun x u=>(Zfo tmps x).run P w = .ok u w) fn.results.toList us):(results fn tmps).run P w = .ok (outV us) w:=by
 rw[ZjM,Array.mapM_eq_mapM_toList]
 simp only[Sem.run_bind,Sem.run_map,Zjb _ _ h,Result.andThen]
 rcases us with _|⟨u,_|⟨u', us⟩⟩
 ·
  simp[outV]
 ·
  simp[outV]
 ·
  simp[outV]
theorem Zdr (hm:Mem P B ρ Z (look ob) w) {E:Env} (hE:TtOk P E.tt) {fr:List (Nat×AV)} {a:Act} (hfr:∀t av,lk t fr=some av→AR P B ρ Z w av (a.eval (.tmp t))):∀(res:List ResultVar) (nd:List Nat) (K:List AV→Pg γ),(resPg E fr res K).run ob KK nd=some r →
  ∃avs us nd', (K avs).run ob KK nd' = some r∧AVs P B ρ Z w avs us∧Each (fun x u=>(Zfo a.tmps x).run P w = .ok u w) res us
 | [],nd,K,h=>⟨[],[],nd,h,rfl,.nil⟩
 | .tmp t :: res,nd,K,h=>by
  unfold resPg at h
  split at h
  ·
   rename_i v hv
   obtain⟨avs,us,nd', h1,h2,h3⟩:=Zdr hm hE hfr res nd _ h
   exact⟨v :: avs,_ :: us,nd', h1,⟨_,us,rfl,hfr t v hv,h2⟩,.cons (by simp[Zfo,Act.eval]) h3⟩
  ·
   cases h
 | .cell b t :: res,nd,K,h=>by
  unfold resPg at h
  split at h
  ·
   rename_i T off i hb hi
   rw[ZbS]at h
   obtain⟨o,ho,h⟩:=h
   cases o with
   | row _ _ _ _=>cases h
   | hole _ _ _ _ _=>cases h
   | box bt ro cells =>
    obtain⟨z,hz,g,vs,h1,h2,h3,h4,h5,h6⟩:=hm.obj T _ ho
    have hev:a.eval (.tmp b) = .pointer (some ⟨g,off,none⟩):=by
     obtain⟨z', g', k1,k2,k3⟩:=hfr b _ hb
     obtain rfl:z' = z:=Option.some.inj (k1.symm.trans hz)
     rw[h1]at k2
     cases k2
     exact k3
    have hev:a.tmps.getD b undef = .pointer (some ⟨g,off,none⟩):=hev
    have hcell:∀(j:Nat) u,((vs.drop off).take i.size)[j]? = some u→w.cell? ((⟨g,off,none⟩:Addr).add j)=some u:=fun j u hu=>by
     rw[Zb4,cell_of_row w g (off+j) vs.toArray bt (0,0) h2]
     simpa using ZeO hu
    have hl:=(h3.drop off).take i.size
    have ht:=hE t i hi
    simp only at h
    split at h
    ·
     rename_i fs hk
     rw[Zba]at h
     obtain⟨hn,h⟩:=h
     have hn:=Nat.eq_of_beq_eq_true hn
     have hsz:((vs.drop off).take i.size).length=i.size:=by rw[hl.len,hn]
     have hr:=run_loadCells_list (P:=P) w ⟨g,off,none⟩ _ hcell
     rw[hsz]at hr
     obtain⟨avs,us,nd', g1,g2,g3⟩:=Zdr hm hE hfr res _ _ h
     refine⟨_ :: avs,.agg ((vs.drop off).take i.size).toArray :: us,nd', g1,⟨_,us,rfl,⟨_,rfl,hl⟩,g2⟩,.cons ?_ g3⟩
     simp[Zfo,hev,asAddr,loadVar,ZdY ht w hk,Zcq ht,hr]
    ·
     rename_i hk
     split at h
     ·
      rename_i l hls
      rw[hls]at hl
      obtain⟨v,hv,hv'⟩:=hl.one_inv
      have hc0:=hcell 0 v (by rw[hv];rfl)
      rw[add_zero]at hc0
      obtain⟨avs,us,nd', g1,g2,g3⟩:=Zdr hm hE hfr res _ _ h
      refine⟨_ :: avs,v :: us,nd', g1,⟨_,us,rfl,hv', g2⟩,.cons ?_ g3⟩
      simp[Zfo,hev,asAddr,loadVar,ZcP ht w (fun fs hf=>hk fs hf),hc0]
     ·
      cases h
  ·
   cases h
end
end Go.Proofs.YthmcpmnhdbeahaaGreat.D
namespace Go.Proofs.YthmcpmnhdbeahaaGreat.D
open Go Go.RowKit
structure FnOk (P:Program) (E:Env) (g:FuncId) (fn:Func) (f:Fn):Prop where
 func:P.funcs[g]? = some fn
 body:fn.body=some f.body
 name : (fn.name == "runtime.NumGoroutine") = false
 res:fn.results.toList=f.res
 n:fn.ntmps=E.n
 len:f.ins.length≤E.n
 ro:roOk f.ins=true
 pin:(Zcd f.ins 0).all (fun T=>Nat.blt T E.pin)=true
section
variable {P:Program} {E:Env}
theorem Zls {B Z S:Nat→Prop} {w:World} {f:Fn} {x:lsd (flats f.ins)} {vs:List Value} (hro:roOk f.ins=true) (hlen:f.ins.length≤E.n) (h:ASRs P B Z w f.ins x vs S) (hS:∀k,S k→¬ Z k∧¬ B k∧k < w.heap.size) (hZ:∀k,Z k→k < w.heap.size) (hB:∀k,B k→k < w.heap.size) :
  ∃ρ0:Rz,(∀k,Own ρ0 (look (entry f.ins x).ob) k→S k)∧Zdv ρ0 f.ins vs (Zcd f.ins 0)∧At P B E.n E.pin ρ0 Z (look (entry f.ins x).ob) w (entry f.ins x) { tmps:=vs.toArray++Array.replicate (E.n - vs.toArray.size) undef,defers:=[] } w:=by
 obtain⟨zl,k1,k2,k3,k4⟩:=Zcu f.ins x vs S 0 0 hro h
 have e:entry f.ins x=⟨(mkIns f.ins x 0 0).1,(mkIns f.ins x 0 0).2.1,(mkIns f.ins x 0 0).2.2⟩:=rfl
 rw[e]
 obtain⟨c1,c2⟩:=k4 (fun T=>lk T zl) fun _ _ h=>h
 have hown:∀k,Own (fun T=>lk T zl) (look (mkIns f.ins x 0 0).2.1) k→S k:=fun k ⟨T,z,_,h2,h3⟩=>k1.sub T z h2 k h3
 have hvs:vs.length≤E.n:=by rw[k3];exact hlen
 refine⟨fun T=>lk T zl,hown,c2,⟨fun T=>lk T zl,Z,_,rfl,⟨fun T o ho => ?_,fun T T' z z' k hne _ _ h1 h2=>k1.dis T T' z z' k hne h1 h2,fun k hk=>⟨(hS k (hown k hk)).1,(hS k (hown k hk)).2.2⟩,hZ,fun k hk=>(hS k (hown k hk)).2.1,hB⟩,Bas.refl,fun t av hav => ?_,?_,rfl,fun T (hT:(mkIns f.ins x 0 0).2.2≤T)=>ZcZ fun hk => ?_⟩⟩
 ·
  have hk:T∈keys zl:=k1.key ▸ Zcg ho
  rw[Zb2]at hk
  cases hz:lk T zl with
  | none=>rw[hz]at hk;cases hk
  | some z=>exact⟨z,rfl,k1.ors _ (fun _ _ h=>h) T o z ho hz⟩
 ·
  obtain⟨i,v,h1,h2,h3⟩:=c1 t av hav
  rw[Nat.zero_add]at h1
  subst h1
  have hi:=(List.getElem?_eq_some_iff.1 h2).1
  have:({ tmps:=vs.toArray++Array.replicate (E.n - vs.toArray.size) undef,defers:=[] }:Act).eval (.tmp t)=v:=by
   simp only[Act.eval,Array.getD_eq_getD_getElem?]
   rw[Array.getElem?_append_left (by simpa using hi)]
   simp[h2]
  rw[this]
  exact h3
 ·
  simp
  omega
 ·
  have:=(k2.lo T hk).2
  omega
theorem ZhC {B Z S:Nat→Prop} {w w' : World} {f:Fn} {vs:List Value} {ρ0:Rz} {ob0:Obs} {σ : St} {a:Act} {yz:lsd (flats f.outs)×lsd (ios f.ins)} {fn:Func} (hE:EnvOk P E) (hres:fn.results.toList=f.res) (hpin:(Zcd f.ins 0).all (fun T=>Nat.blt T E.pin)=true)
  (hS:∀k,Own ρ0 ob0 k→S k) (hb:Zdv ρ0 f.ins vs (Zcd f.ins 0)) (h:At P B E.n E.pin ρ0 Z ob0 w σ a w') (hc:collect E f σ = some yz) :
  a.defers=[]∧∃u,(results fn a.tmps).run P w' = .ok u w' ∧ ∃Z' Fi Fo,PostR P B Z S w f.ins f.outs vs yz.1 yz.2 u w' Z' Fi Fo:=by
 obtain⟨ρ,Z', L,h1,hm,hbas,hfr,h5,h6,h7⟩:=h
 refine⟨h6,?_⟩
 unfold collect at hc
 obtain⟨avs,us,nd1,hc,k1,k2⟩:=Zdr hm hE.tt (a:=a) hfr _ _ _ hc
 obtain⟨y,c,nd2,hc,k3,k4⟩:=Zda hm _ _ us _ _ hc k1
 have hb' : Zdv ρ f.ins vs (Zcd f.ins 0):=hb.mono fun T hT z hz=>hbas.hdr T z (by
  rw[List.all_eq_true]at hpin
  simpa using hpin T hT) hz
 obtain⟨z,c', nd3,hc,k5,k6⟩:=Zcs hm _ vs _ _ _ hc hb'
 rw[Zba]at hc
 obtain⟨hn,hc⟩:=hc
 have hc:some (y,z)=some yz:=hc
 cases hc
 obtain⟨n1,n2,n3⟩:=nodup_append hn
 rw[←hres]at k2
 refine⟨outV us,ZiH k2,Z', Of ρ c', Of ρ c,k5 n2,⟨us,rfl,k3 n1⟩,fun k hk hk' => Zef hm k4 k6 hn k hk' hk,fun k hk => ?_,hbas.zm,fun k hk=>⟨?_,hm.zlt k hk⟩,hbas.os,hbas.tape,hbas.output,hbas.size,fun k hk hs=>hbas.old k hk fun ho=>hs (hS k ho)⟩
 ·
  have ho:Own ρ (look σ.ob) k:=hk.elim (fun h=>h.own k6) fun h=>h.own k4
  exact⟨(hbas.own k ho).imp (hS k) id,(hm.zsep k ho).2,(hm.zsep k ho).1⟩
 ·
  rcases hbas.zn k hk with h|h|h
  ·
   exact .inl h
  ·
   exact .inr (.inl (hS k h))
  ·
   exact .inr (.inr h)
theorem Zey (hE:EnvOk P E) (hm:P.follows .mixedOrders=true) {g:FuncId} {fn:Func} {f:Fn} (h:FnOk P E g fn f) {R:Type} {enc:lsd (flats f.outs)×lsd (ios f.ins)→R} {dec:R→lsd (flats f.outs)×lsd (ios f.ins)} (hde:∀y,dec (enc y)=y):Valid P g ⟨f.ins,f.outs,R,denF E f enc,dec⟩:=by
 refine⟨⟨fn,h.func,h.name,by rw[h.body];rfl⟩,fun x r hx Z B S w vs hargs hS hZ hB => ?_⟩
 obtain⟨ρ0,e1,e2,e3⟩:=Zls (E:=E) (f:=f) h.ro h.len hargs hS hZ hB
 refine calls_of_wp h.func h.body ?_
 rw[h.n]
 have out:∀{yz},(collect E f yz).map enc=some r→∃y,collect E f yz=some y∧dec r=y:=fun {σ} h=>by
  cases hc:collect E f σ with
  | none=>rw[hc]at h;cases h
  | some y =>
   rw[hc]at h
   cases h
   exact⟨y,rfl,hde y⟩
 refine Zju hE hm f.body (retG f enc E) r (entry f.ins x) _ w _ hx e3 fun ex σ' a' w' hk hat => ?_
 cases ex with
 | normal =>
  obtain⟨y,hy,e⟩:=out hk
  obtain⟨d,u,hr,hp⟩:=ZhC (fn:=fn) hE h.res h.pin e1 e2 hat hy
  exact⟨d,u,hr,u,rfl,by show ∃Z' Fi Fo,PostR P B Z S w f.ins f.outs vs (dec r).1 (dec r).2 u w' Z' Fi Fo;rw[e];exact hp⟩
 | exit i=>cases hk
 | ret =>
  obtain⟨y,hy,e⟩:=out hk
  obtain⟨d,u,hr,hp⟩:=ZhC (fn:=fn) hE h.res h.pin e1 e2 hat hy
  exact⟨d,u,hr,u,rfl,by show ∃Z' Fi Fo,PostR P B Z S w f.ins f.outs vs (dec r).1 (dec r).2 u w' Z' Fi Fo;rw[e];exact hp⟩
end
end Go.Proofs.YthmcpmnhdbeahaaGreat.D
namespace Go.Proofs.YthmcpmnhdbeahaaGreat.D
open Go Go.RowKit
theorem run_bind {γ β δ : Type} (ob:List (Nat×Ob)) (K : γ → List Nat→Option β) (G : β → Option δ):∀(pg:Pg γ) (nd:List Nat),pg.run ob (fun g n=>(K g n).bind G) nd=(pg.run ob K nd).bind G:=by
 intro pg
 induction pg with
 | fail=>intro nd;rfl
 | ret g=>intro nd;rfl
 | obj T f ih =>
  intro nd
  unfold Pg.run
  cases lk T ob with
  | none=>rfl
  | some o=>exact ih o _
 | test p d x y ihx ihy =>
  intro nd
  unfold Pg.run
  by_cases hp:p
  ·
   rw[if_pos hp,if_pos hp];exact ihx nd
  ·
   rw[if_neg hp,if_neg hp];exact ihy nd
 | call v f ih =>
  intro nd
  unfold Pg.run
  cases v with
  | none=>rfl
  | some a=>exact ih a nd
theorem Zkj {β δ : Type} (E:Env) (σ : St) (dec:List (Nat×Bool)) (o:Oper) (k:St→Trc→Option β) (G : β → Option δ):goOp E σ dec o (fun s t=>(k s t).bind G)=(goOp E σ dec o k).bind G:=by
 unfold goOp
 rw[←run_bind]
 congr 1
 funext e nd
 split
 ·
  cases newOk σ e _ e.add.length && dstOk E o.dst <;> rfl
 ·
  rfl
theorem Zk4 {β δ : Type} (E:Env) (o:Oper) (x:Option β) (G : β → Option δ):skOp E o (x.bind G)=(skOp E o x).bind G:=by
 unfold skOp
 cases dstOk E o.dst <;> rfl
theorem Zem {β δ : Type} (E:Env) (all:List Oper) (K:St→List Trc→Option β) (G : β → Option δ):∀(ops:List Oper) (σ : St) (dec:List (Nat×Bool)) (tr:List Trc),Zcl E all (fun s t=>(K s t).bind G) ops σ dec tr=(Zcl E all K ops σ dec tr).bind G
 | [],σ,dec,tr=>rfl
 | o :: r,σ,dec,tr=>by
  have go:∀dec,goOp E σ dec o (fun s t=>Zcl E all (fun s t=>(K s t).bind G) r s (rmD o.dst dec) (t :: tr))=(goOp E σ dec o (fun s t=>Zcl E all K r s (rmD o.dst dec) (t :: tr))).bind G:=fun dec=>by
   rw[←Zkj]
   congr 1
   funext s t
   exact Zem E all K G r s _ _
  have sk:∀dec,skOp E o (Zcl E all (fun s t=>(K s t).bind G) r (σ.skip o.dst) (rmD o.dst dec) (([],[]) :: tr))=(skOp E o (Zcl E all K r (σ.skip o.dst) (rmD o.dst dec) (([],[]) :: tr))).bind G:=fun dec=>by
   rw[←Zk4,Zem E all K G r]
  unfold Zcl
  split
  ·
   exact go dec
  ·
   split
   ·
    rfl
   ·
    split
    ·
     rename_i b _
     cases b == _
     ·
      exact sk dec
     ·
      exact go dec
    ·
     split
     ·
      rename_i n p d _
      by_cases hp:p
      ·
       rw[if_pos hp,if_pos hp]
       generalize (!n == _)=bb
       cases bb
       ·
        exact sk _
       ·
        exact go _
      ·
       rw[if_neg hp,if_neg hp]
       generalize (n == _)=bb
       cases bb
       ·
        exact sk _
       ·
        exact go _
     ·
      exact sk dec
     ·
      rfl
theorem Zk2 {β δ : Type} (k:St→Option β) (K:Ex→St→Option β) (G : β → Option δ):(fun e s=>(seqK k K e s).bind G)=seqK (fun s=>(k s).bind G) (fun e s=>(K e s).bind G):=by
 funext e s
 cases e <;> rfl
theorem ZjW {β δ : Type} (id:Nat) (K:Ex→St→Option β) (G : β → Option δ):(fun e s=>(blkK id K e s).bind G)=blkK id (fun e s=>(K e s).bind G):=by
 funext e s
 cases e with
 | exit i =>
  show(bif Nat.beq i id then K .normal s else K (.exit i) s).bind G=bif Nat.beq i id then(K .normal s).bind G else(K (.exit i) s).bind G
  cases Nat.beq i id <;> rfl
 | _=>rfl
theorem Zkb (E:Env):∀(c:Code) {β δ : Type} (σ : St) (K:Ex→St→Option β) (G : β → Option δ),denC E c σ (fun e s=>(K e s).bind G)=(denC E c σ K).bind G:=by
 intro c
 induction c with
 | skip=>intro β δ σ K G;simp only[denC]
 | region id ops draw =>
  intro β δ σ K G
  simp only[denC]
  rw[←Zem]
  congr 1
  funext s tr
  cases draw
  ·
   rfl
  ·
   cases h:bern ops tr <;> simp
 | seq x y ihx ihy =>
  intro β δ σ K G
  simp only[denC]
  rw[←ihx,Zk2]
  congr 2
  funext s
  exact ihy s K G
 | cond c x y ihx ihy =>
  intro β δ σ K G
  simp only[denC]
  split
  ·
   rename_i n p d _
   by_cases hp:p
   ·
    rw[if_pos hp,if_pos hp]
    cases n
    ·
     exact ihx σ K G
    ·
     exact ihy σ K G
   ·
    rw[if_neg hp,if_neg hp]
    cases n
    ·
     exact ihy σ K G
    ·
     exact ihx σ K G
  ·
   rfl
 | block id c ih =>
  intro β δ σ K G
  simp only[denC]
  rw[←ih,ZjW]
 | loop c ih =>
  intro β δ σ K G
  simp only[denC]
  cases loopR (fun s=>denC E c s (backK E (rid c))) (nrm E (rid c) σ) <;> rfl
 | exit id=>intro β δ σ K G;simp only[denC]
 | ret=>intro β δ σ K G;simp only[denC]
 | _=>intro β δ σ K G;simp[denC]
theorem Zhz (E:Env) (c:Code) {β : Type} (σ : St) (K:Ex→St→Option β):denC E c σ K=(denC E c σ fun e s=>some (e,s)).bind fun p=>K p.1 p.2:=by
 rw[←Zkb]
 rfl
section
variable {f:St→Option (Ex×St)}
theorem ZfV:∀{n m:Nat} {σ : St} {p:Ex×St},iter f n σ = some p→n≤m→iter f m σ = some p
 | 0,_,_,_,h,_=>by cases h
 | n+1,0,_,_,_,h=>absurd h (Nat.not_succ_le_zero n)
 | n+1,m+1,σ,p,h,hm=>by
  unfold iter at h ⊢
  split
  ·
   rename_i s hs
   rw[hs]at h
   exact ZfV h (Nat.le_of_succ_le_succ hm)
  ·
   rename_i r hr
   split at h
   ·
    rename_i s hs
    exact absurd hs (fun hs=>hr s hs)
   ·
    exact h
theorem Ze2 {n:Nat} {σ : St} {p:Ex×St} (h:iter f n σ = some p):loopR f σ = some p:=by
 have hx:∃n,(iter f n σ).isSome=true:=⟨n,by rw[h];rfl⟩
 unfold loopR
 rw[dif_pos hx]
 have hc:=Classical.choose_spec hx
 generalize Classical.choose hx=m at hc ⊢
 cases hm:iter f m σ with
 | none=>rw[hm]at hc;cases hc
 | some q =>
  have h1:=ZfV h (Nat.le_max_left n m)
  have h2:=ZfV hm (Nat.le_max_right n m)
  rw[h1]at h2
  exact h2.symm
theorem Zgu {σ : St} {p:Ex×St} (h:loopR f σ = some p):∃n,iter f n σ = some p:=by
 unfold loopR at h
 split at h
 ·
  exact⟨_,h⟩
 ·
  cases h
def back (f:St→Option (Ex×St)) (g:St→Option (Ex×St)):Option (Ex×St)→Option (Ex×St)
 | some (.normal,s)=>g s
 | r=>r
theorem Zjz (σ : St):loopR f σ = back f (loopR f) (f σ):=by
 cases hl:back f (loopR f) (f σ)with
 | none =>
  cases hr:loopR f σ with
  | none=>rfl
  | some p =>
   obtain⟨n,hn⟩:=Zgu hr
   exfalso
   cases n with
   | zero=>cases hn
   | succ n =>
    unfold iter at hn
    unfold back at hl
    split at hn
    ·
     rename_i s hs
     rw[hs]at hl
     have:=Ze2 hn
     simp only at hl
     rw[this]at hl;cases hl
    ·
     rename_i r hr'
     split at hl
     ·
      rename_i s hs;exact hr' s hs
     ·
      rw[hl]at hn;cases hn
 | some p =>
  unfold back at hl
  split at hl
  ·
   rename_i s hs
   obtain⟨n,hn⟩:=Zgu hl
   exact Ze2 (n:=n+1) (by unfold iter;rw[hs];exact hn)
  ·
   rename_i r hr
   refine Ze2 (n:=1) ?_
   unfold iter
   split
   ·
    rename_i s hs;exact absurd hs (hr s)
   ·
    exact hl
end
theorem Zv (E:Env) (c:Code) {β : Type} (s:St) (K:Ex→St→Option β):denC E (.loop c) s K=denC E c (nrm E (rid c) s) (seqK (fun s=>denC E (.loop c) s K) K):=by
 have h1:∀s,denC E (.loop c) s K=(loopR (fun s=>denC E c s (backK E (rid c))) (nrm E (rid c) s)).bind fun p=>K p.1 p.2:=fun s=>by simp only[denC]
 rw[h1,Zjz,Zhz E c (nrm E (rid c) s) (seqK (fun s=>denC E (.loop c) s K) K),Zhz E c (nrm E (rid c) s) (backK E (rid c))]
 cases denC E c (nrm E (rid c) s) (fun e s=>some (e,s))with
 | none=>rfl
 | some p =>
  obtain⟨e,s'⟩:=p
  cases e with
  | normal=>exact(h1 s').symm
  | exit i=>rfl
  | ret=>rfl
end Go.Proofs.YthmcpmnhdbeahaaGreat.D
namespace Go.Proofs.YthmcpmnhdbeahaaGreat.D
open Go Go.RowKit
def rd (xs:List Int) (i:Int):Int:=xs.getD i.toNat 0
def row (xs:List (List Int)) (i:Int):List Int:=xs.getD i.toNat []
def T (g:List (List Int)) (a b:Int):Int:=rd (row g a) b
section
variable {P:Program} {t:TypeId}
def stOf:TypeDesc→Option (Array Field)
 | .struct f=>some f
 | _=>none
def Zng:TypeDesc→Bool
 | .struct _=>false
 | .array _ _=>false
 | _=>true
theorem ZhI {fs:List (Nat×TypeId)} (h1:((P.underlying t).bind stOf).map (fun fields=>fields.toList.map fun f=>(f.offset,f.type))=some fs) (h2:(((P.underlying t).bind stOf).bind fun fields=>fields.toList.mapM fun f=>(P.info? f.type).map fun i=>(f.offset,i.size)).isSome=true):Zho P t (.st fs):=by
 cases hu:P.underlying t with
 | none=>rw[hu]at h1;cases h1
 | some d =>
  rw[hu]at h1 h2
  cases d <;> first|(cases h1;done)|skip
  rename_i fields
  simp only[Option.bind_some,stOf,Option.map_some,Option.some.injEq]at h1 h2
  cases hm:fields.toList.mapM fun f=>(P.info? f.type).map fun i=>(f.offset,i.size)with
  | none=>rw[hm]at h2;cases h2
  | some places=>exact⟨fields,hu,h1,places,hm⟩
theorem Zkr (h:((P.underlying t).map Zng)=some true):Zho P t .other:=by
 cases hu:P.underlying t with
 | none=>rw[hu]at h;cases h
 | some d =>
  rw[hu]at h
  refine⟨d,hu,?_⟩
  cases d <;> first|trivial|cases h
theorem tiMk {k:TK} {size bytes:Nat} {zero:List Lf} {ty:Ty} (hk:Zho P t k) (h1:(P.info? t).map (fun i=>(i.size,i.bytes))=some (size,bytes)) (h2:((P.info? t).bind (·.zero)).bind (fun z=>Zd3 z.cells.toList)=some zero) (h3:((P.info? t).bind (·.zero)).map (fun z=>z.cells.toList)=some (zcells ty)):TiOk P t ⟨k,size,bytes,zero,ty,true⟩:=by
 refine⟨hk,?_⟩
 cases hi:P.info? t with
 | none=>rw[hi]at h1;cases h1
 | some i =>
  rw[hi]at h1 h2 h3
  simp only[Option.map_some,Option.some.injEq,Prod.mk.injEq]at h1
  refine⟨i,rfl,h1.1,h1.2,fun _ _ => ?_⟩
  cases hz:i.zero with
  | none=>simp[hz]at h2
  | some z =>
   simp only[Option.bind_some,hz,Option.map_some,Option.some.injEq]at h2 h3
   exact⟨z,rfl,h2,fun _=>h3⟩
theorem tiMk' {k:TK} {size bytes:Nat} {zero:List Lf} {ty:Ty} (hk:Zho P t k) (h1:(P.info? t).map (fun i=>(i.size,i.bytes))=some (size,bytes)) (h2:zero.length≠size):TiOk P t ⟨k,size,bytes,zero,ty,false⟩:=by
 refine⟨hk,?_⟩
 cases hi:P.info? t with
 | none=>rw[hi]at h1;cases h1
 | some i =>
  rw[hi]at h1
  simp only[Option.map_some,Option.some.injEq,Prod.mk.injEq]at h1
  exact⟨i,rfl,h1.1,h1.2,fun h=>absurd h h2⟩
theorem ttNil:TtOk P []:=fun _ _ h=>by cases h
theorem Zce {i:TI} {r:List (Nat×TI)} (h:TiOk P t i) (hr:TtOk P r):TtOk P ((t,i) :: r):=fun u j hj=>by
 by_cases e:u=t
 ·
  subst e
  simp[lk]at hj
  subst hj
  exact h
 ·
  simp[lk,Zb7 e]at hj
  exact hr u j hj
theorem Zaq:Zdw P []:=fun _ _ h=>by cases h
theorem Zs {g:FuncId} {c:Con} {r:List (Nat×Con)} (h:Valid P g c) (hr:Zdw P r):Zdw P ((g,c) :: r):=fun u j hj=>by
 by_cases e:u=g
 ·
  subst e
  simp[lk]at hj
  subst hj
  exact h
 ·
  simp[lk,Zb7 e]at hj
  exact hr u j hj
end
end Go.Proofs.YthmcpmnhdbeahaaGreat.D
namespace Go.Proofs.YthmcpmnhdbeahaaGreat.P
open Go Go.RowKit Go.Proofs.YthmcpmnhdbeahaaGreat.D
theorem ti2:TiOk Tryz.prog 2 ⟨.int .i64,1,8,[.int .i64 0],(.int .i64),true⟩:=tiMk (show Tryz.prog.underlying 2=some (.int .i64)by kernel_rfl) (by kernel_rfl) (by kernel_rfl) (by kernel_rfl)
theorem ti3:TiOk Tryz.prog 3 ⟨.int .i64,1,8,[.int .i64 0],(.int .i64),true⟩:=tiMk (show Tryz.prog.underlying 3=some (.int .i64)by kernel_rfl) (by kernel_rfl) (by kernel_rfl) (by kernel_rfl)
theorem ti4:TiOk Tryz.prog 4 ⟨.bool,1,1,[fls],.bool,true⟩:=tiMk (show Tryz.prog.underlying 4=some .bool by kernel_rfl) (by kernel_rfl) (by kernel_rfl) (by kernel_rfl)
theorem ti5:TiOk Tryz.prog 5 ⟨.int .u8,1,1,[.int .u8 0],(.int .u8),true⟩:=tiMk (show Tryz.prog.underlying 5=some (.int .u8)by kernel_rfl) (by kernel_rfl) (by kernel_rfl) (by kernel_rfl)
theorem ti9:TiOk Tryz.prog 9 ⟨.str,1,16,[.str ByteArray.empty],.str,true⟩:=tiMk (show Tryz.prog.underlying 9=some .string by kernel_rfl) (by kernel_rfl) (by kernel_rfl) (by kernel_rfl)
theorem ti22:TiOk Tryz.prog 22 ⟨.sl 5,1,24,[.nil],(.sl 5 (.int .u8)),true⟩:=tiMk (show Tryz.prog.underlying 22=some (.slice 5)by kernel_rfl) (by kernel_rfl) (by kernel_rfl) (by kernel_rfl)
theorem ti24:TiOk Tryz.prog 24 ⟨.sl 27,1,24,[.nil],(.sl 27 (.sl 2 (.int .i64))),true⟩:=tiMk (show Tryz.prog.underlying 24=some (.slice 27)by kernel_rfl) (by kernel_rfl) (by kernel_rfl) (by kernel_rfl)
theorem ti26:TiOk Tryz.prog 26 ⟨.st [(0,24)],1,24,[.nil],(.sl 27 (.sl 2 (.int .i64))),true⟩:=tiMk (ZhI (by kernel_rfl) (by kernel_rfl)) (by kernel_rfl) (by kernel_rfl) (by kernel_rfl)
theorem ti27:TiOk Tryz.prog 27 ⟨.sl 2,1,24,[.nil],(.sl 2 (.int .i64)),true⟩:=tiMk (show Tryz.prog.underlying 27=some (.slice 2)by kernel_rfl) (by kernel_rfl) (by kernel_rfl) (by kernel_rfl)
theorem ti29:TiOk Tryz.prog 29 ⟨.st [(0,2),(1,27)],2,32,[.int .i64 0,.nil],(.pr (.int .i64) (.sl 2 (.int .i64))),true⟩:=tiMk (ZhI (by kernel_rfl) (by kernel_rfl)) (by kernel_rfl) (by kernel_rfl) (by kernel_rfl)
theorem ti56:TiOk Tryz.prog 56 ⟨.st [(0,2),(1,27)],2,32,[.int .i64 0,.nil],(.pr (.int .i64) (.sl 2 (.int .i64))),true⟩:=tiMk (ZhI (by kernel_rfl) (by kernel_rfl)) (by kernel_rfl) (by kernel_rfl) (by kernel_rfl)
theorem ti100:TiOk Tryz.prog 100 ⟨.other,1,8,[],(.int .i64),false⟩:=tiMk' (Zkr (by kernel_rfl)) (by kernel_rfl) (by decide)
theorem ti137:TiOk Tryz.prog 137 ⟨.int .u64,1,8,[.int .u64 0],(.int .u64),true⟩:=tiMk (show Tryz.prog.underlying 137=some (.int .u64)by kernel_rfl) (by kernel_rfl) (by kernel_rfl) (by kernel_rfl)
theorem ti141:TiOk Tryz.prog 141 ⟨.int .u64,1,8,[.int .u64 0],(.int .u64),true⟩:=tiMk (show Tryz.prog.underlying 141=some (.int .u64)by kernel_rfl) (by kernel_rfl) (by kernel_rfl) (by kernel_rfl)
theorem ti143:TiOk Tryz.prog 143 ⟨.st [(0,22),(1,3),(2,141)],3,40,[.nil,.int .i64 0,.int .u64 0],(.pr (.sl 5 (.int .u8)) (.pr (.int .i64) (.int .u64))),true⟩:=tiMk (ZhI (by kernel_rfl) (by kernel_rfl)) (by kernel_rfl) (by kernel_rfl) (by kernel_rfl)
theorem ti144:TiOk Tryz.prog 144 ⟨.sl 29,1,24,[.nil],(.sl 29 (.pr (.int .i64) (.sl 2 (.int .i64)))),true⟩:=tiMk (show Tryz.prog.underlying 144=some (.slice 29)by kernel_rfl) (by kernel_rfl) (by kernel_rfl) (by kernel_rfl)
theorem ti149:TiOk Tryz.prog 149 ⟨.sl 56,1,24,[.nil],(.sl 56 (.pr (.int .i64) (.sl 2 (.int .i64)))),true⟩:=tiMk (show Tryz.prog.underlying 149=some (.slice 56)by kernel_rfl) (by kernel_rfl) (by kernel_rfl) (by kernel_rfl)
theorem ti187:TiOk Tryz.prog 187 ⟨.st [(0,2),(1,24)],2,32,[.int .i64 0,.nil],(.pr (.int .i64) (.sl 27 (.sl 2 (.int .i64)))),true⟩:=tiMk (ZhI (by kernel_rfl) (by kernel_rfl)) (by kernel_rfl) (by kernel_rfl) (by kernel_rfl)
theorem ti191:TiOk Tryz.prog 191 ⟨.sl 9,1,24,[.nil],(.sl 9 .str),true⟩:=tiMk (show Tryz.prog.underlying 191=some (.slice 9)by kernel_rfl) (by kernel_rfl) (by kernel_rfl) (by kernel_rfl)
noncomputable def TT:List (Nat×TI):=[(2,⟨.int .i64,1,8,[.int .i64 0],(.int .i64),true⟩),(3,⟨.int .i64,1,8,[.int .i64 0],(.int .i64),true⟩),(4,⟨.bool,1,1,[fls],.bool,true⟩),(5,⟨.int .u8,1,1,[.int .u8 0],(.int .u8),true⟩),(9,⟨.str,1,16,[.str ByteArray.empty],.str,true⟩),(22,⟨.sl 5,1,24,[.nil],(.sl 5 (.int .u8)),true⟩),(24,⟨.sl 27,1,24,[.nil],(.sl 27 (.sl 2 (.int .i64))),true⟩),(26,⟨.st [(0,24)],1,24,[.nil],(.sl 27 (.sl 2 (.int .i64))),true⟩),(27,⟨.sl 2,1,24,[.nil],(.sl 2 (.int .i64)),true⟩),(29,⟨.st [(0,2),(1,27)],2,32,[.int .i64 0,.nil],(.pr (.int .i64) (.sl 2 (.int .i64))),true⟩),(56,⟨.st [(0,2),(1,27)],2,32,[.int .i64 0,.nil],(.pr (.int .i64) (.sl 2 (.int .i64))),true⟩),(100,⟨.other,1,8,[],(.int .i64),false⟩),(137,⟨.int .u64,1,8,[.int .u64 0],(.int .u64),true⟩),(141,⟨.int .u64,1,8,[.int .u64 0],(.int .u64),true⟩),(143,⟨.st [(0,22),(1,3),(2,141)],3,40,[.nil,.int .i64 0,.int .u64 0],(.pr (.sl 5 (.int .u8)) (.pr (.int .i64) (.int .u64))),true⟩),(144,⟨.sl 29,1,24,[.nil],(.sl 29 (.pr (.int .i64) (.sl 2 (.int .i64)))),true⟩),(149,⟨.sl 56,1,24,[.nil],(.sl 56 (.pr (.int .i64) (.sl 2 (.int .i64)))),true⟩),(187,⟨.st [(0,2),(1,24)],2,32,[.int .i64 0,.nil],(.pr (.int .i64) (.sl 27 (.sl 2 (.int .i64)))),true⟩),(191,⟨.sl 9,1,24,[.nil],(.sl 9 .str),true⟩)]
theorem ttOk:TtOk Tryz.prog TT:=(Zce ti2 (Zce ti3 (Zce ti4 (Zce ti5 (Zce ti9 (Zce ti22 (Zce ti24 (Zce ti26 (Zce ti27 (Zce ti29 (Zce ti56 (Zce ti100 (Zce ti137 (Zce ti141 (Zce ti143 (Zce ti144 (Zce ti149 (Zce ti187 (Zce ti191 ttNil)))))))))))))))))))
theorem fnV (f:D.Fn) (E:Env) {R:Type} (enc:lsd (flats f.outs)×lsd (ios f.ins)→R) {g:FuncId} {fn:Func} {dec:R→lsd (flats f.outs)×lsd (ios f.ins)} (hE:EnvOk Tryz.prog E) (h:Tryz.prog.funcs[g]? = some fn) (h1:fn.body=some f.body:=by kernel_rfl)
  (h2 : (fn.name == "runtime.NumGoroutine") = false := by kernel_rfl)
  (h3:fn.results.toList=f.res:=by kernel_rfl) (h4:fn.ntmps=E.n:=by kernel_rfl) (h5:f.ins.length≤E.n:=by decide) (h6:roOk f.ins=true:=by kernel_rfl) (h7:(Zcd f.ins 0).all (fun T=>Nat.blt T E.pin)=true:=by kernel_rfl) (h8:∀y,dec (enc y)=y:=by exact fun _=>rfl):Valid Tryz.prog g ⟨f.ins,f.outs,R,denF E f enc,dec⟩:=Zey hE (Checked.mixed Tryz.checked) ⟨h,h1,h2,h3,h4,h5,h6,h7⟩ h8
end Go.Proofs.YthmcpmnhdbeahaaGreat.P
set_option maxRecDepth 100000
namespace Go.Proofs.YthmcpmnhdbeahaaGreat.P
open Go Go.RowKit Go.Proofs.YthmcpmnhdbeahaaGreat.D
noncomputable def ZbX.E:Env:={ tt:=TT,con:=[],frz:=[],rows:=[],live:=[],n:=6,pin:=0,nils:=[] }
noncomputable def ZbX.fn:D.Fn:={ body:=Tryz.f7.body.getD .skip,res:=Tryz.f7.results.toList,ins:=[.one (.v (.sl 5 (.int .u8)))],outs:=[.one (.v .bool)] }
def ZbX.enc (y:lsd (flats ZbX.fn.outs)×lsd (ios ZbX.fn.ins)):Bool:=y.1.1
noncomputable def ZbX.f (l0:List Int):Option Bool:=denF ZbX.E ZbX.fn ZbX.enc (l0,())
theorem ZbX.f_eq (l0:List Int):ZbX.f l0=some (decide ((l0.length:Int) > 4096)):=by kernel_rfl
noncomputable def ZbX.con:Con:=⟨ZbX.fn.ins,ZbX.fn.outs,Bool,fun x=>ZbX.f x.1,fun r=>((r,()),(()))⟩
theorem ZbX.valid:Valid Tryz.prog 7 ZbX.con:=fnV ZbX.fn ZbX.E ZbX.enc ⟨ttOk,Zaq⟩ Tryz.func7
end Go.Proofs.YthmcpmnhdbeahaaGreat.P
namespace Go.Proofs.YthmcpmnhdbeahaaGreat.P
open Go Go.RowKit Go.Proofs.YthmcpmnhdbeahaaGreat.D
noncomputable def ZaA.E:Env:={ tt:=TT,con:=[],frz:=[],rows:=[],live:=[(4,[0,1,5])],n:=26,pin:=0,nils:=[] }
noncomputable def ZaA.fn:D.Fn:={ body:=Tryz.f16.body.getD .skip,res:=Tryz.f16.results.toList,ins:=[.one (.v (.sl 2 (.int .i64))),.one (.v (.sl 2 (.int .i64)))],outs:=[.one (.v .bool)] }
def ZaA.enc (y:lsd (flats ZaA.fn.outs)×lsd (ios ZaA.fn.ins)):Bool:=y.1.1
noncomputable def ZaA.f (l0:List Int) (l1:List Int):Option Bool:=denF ZaA.E ZaA.fn ZaA.enc (l0,l1,())
noncomputable def ZaA.l0 (x0:List Int) (x1:List Int) (x5:Int):Option Bool:=denAt ZaA.E ZaA.fn ZaA.enc [1,1,0,1,0] { fr:=[(0,.lf (.sl (.int .i64) x0)),(1,.lf (.sl (.int .i64) x1)),(5,.lf (.int .i64 x5))],ob:=[],nx:=0 }
theorem ZaA.f_eq (l0:List Int) (l1:List Int):ZaA.f l0 l1=if(l0.length:Int)=(l1.length:Int)then(ZaA.l0 l0 l1 0)else(some false):=by kernel_rfl
theorem ZaA.l0_eq (x0:List Int) (x1:List Int) (x5:Int):ZaA.l0 x0 x1 x5=if x5 < (x0.length:Int)then(if 0≤x5 then(if x5 < (x0.length:Int)then(if 0≤x5 then(if x5 < (x1.length:Int)then(if(rd x0 x5)=(rd x1 x5)then(ZaA.l0 x0 x1 (wrapI (x5+1)))else(some false))else none)else none)else none)else none)else(some true):=(Zv _ _ _ _).trans (by kernel_rfl)
noncomputable def ZaA.con:Con:=⟨ZaA.fn.ins,ZaA.fn.outs,Bool,fun x=>ZaA.f x.1 x.2.1,fun r=>((r,()),(()))⟩
theorem ZaA.valid:Valid Tryz.prog 16 ZaA.con:=fnV ZaA.fn ZaA.E ZaA.enc ⟨ttOk,Zaq⟩ Tryz.func16
end Go.Proofs.YthmcpmnhdbeahaaGreat.P
namespace Go.Proofs.YthmcpmnhdbeahaaGreat.P
open Go Go.RowKit Go.Proofs.YthmcpmnhdbeahaaGreat.D
noncomputable def Za3.E:Env:={ tt:=TT,con:=[],frz:=[],rows:=[],live:=[(2,[0,7,8,9])],n:=21,pin:=0,nils:=[] }
noncomputable def Za3.fn:D.Fn:={ body:=Tryz.f93.body.getD .skip,res:=Tryz.f93.results.toList,ins:=[.one (.v (.int .i64)),.one (.v (.sl 2 (.int .i64)))],outs:=[.one (.v .bool)] }
def Za3.enc (y:lsd (flats Za3.fn.outs)×lsd (ios Za3.fn.ins)):Bool:=y.1.1
noncomputable def Za3.f (a0:Int) (l1:List Int):Option Bool:=denF Za3.E Za3.fn Za3.enc (a0,l1,())
noncomputable def Za3.l0 (x0:Int) (x7:List Int) (x8:Int) (x9:Int):Option Bool:=denAt Za3.E Za3.fn Za3.enc [1,0,1,0] { fr:=[(0,.lf (.int .i64 x0)),(7,.lf (.sl (.int .i64) x7)),(8,.lf (.int .i64 x8)),(9,.lf (.int .i64 x9))],ob:=[],nx:=0 }
theorem Za3.f_eq (a0:Int) (l1:List Int):Za3.f a0 l1=Za3.l0 a0 l1 (l1.length:Int) 0:=by kernel_rfl
theorem Za3.l0_eq (x0:Int) (x7:List Int) (x8:Int) (x9:Int):Za3.l0 x0 x7 x8 x9=if x9 < x8 then(if 0≤x9 then(if x9 < (x7.length:Int)then(if(rd x7 x9) < 0 then(some false)else(if(rd x7 x9)≥x0 then(some false)else(Za3.l0 x0 x7 x8 (wrapI (x9+1)))))else none)else none)else(some true):=(Zv _ _ _ _).trans (by kernel_rfl)
noncomputable def Za3.con:Con:=⟨Za3.fn.ins,Za3.fn.outs,Bool,fun x=>Za3.f x.1 x.2.1,fun r=>((r,()),(()))⟩
theorem Za3.valid:Valid Tryz.prog 93 Za3.con:=fnV Za3.fn Za3.E Za3.enc ⟨ttOk,Zaq⟩ Tryz.func93
end Go.Proofs.YthmcpmnhdbeahaaGreat.P
namespace Go.Proofs.YthmcpmnhdbeahaaGreat.P
open Go Go.RowKit Go.Proofs.YthmcpmnhdbeahaaGreat.D
noncomputable def Zan.E:Env:={ tt:=TT,con:=[],frz:=[],rows:=[],live:=[],n:=6,pin:=0,nils:=[] }
noncomputable def Zan.fn:D.Fn:={ body:=Tryz.f139.body.getD .skip,res:=Tryz.f139.results.toList,ins:=[.agg [.v (.sl 27 (.sl 2 (.int .i64)))]],outs:=[.one (.v (.int .i64))] }
def Zan.enc (y:lsd (flats Zan.fn.outs)×lsd (ios Zan.fn.ins)):Int:=y.1.1
noncomputable def Zan.f (l0_0:List (List Int)):Option Int:=denF Zan.E Zan.fn Zan.enc (l0_0,())
theorem Zan.f_eq (l0_0:List (List Int)):Zan.f l0_0=some (l0_0.length:Int):=by kernel_rfl
noncomputable def Zan.con:Con:=⟨Zan.fn.ins,Zan.fn.outs,Int,fun x=>Zan.f x.1,fun r=>((r,()),(()))⟩
theorem Zan.valid:Valid Tryz.prog 139 Zan.con:=fnV Zan.fn Zan.E Zan.enc ⟨ttOk,Zaq⟩ Tryz.func139
end Go.Proofs.YthmcpmnhdbeahaaGreat.P
namespace Go.Proofs.YthmcpmnhdbeahaaGreat.P
open Go Go.RowKit Go.Proofs.YthmcpmnhdbeahaaGreat.D
noncomputable def ZT.E:Env:={ tt:=TT,con:=[],frz:=[],rows:=[],live:=[(2,[0,1,7,8])],n:=19,pin:=0,nils:=[] }
noncomputable def ZT.fn:D.Fn:={ body:=Tryz.f173.body.getD .skip,res:=Tryz.f173.results.toList,ins:=[.one (.v (.sl 2 (.int .i64))),.one (.v (.int .i64))],outs:=[.one (.v (.int .i64))] }
def ZT.enc (y:lsd (flats ZT.fn.outs)×lsd (ios ZT.fn.ins)):Int:=y.1.1
noncomputable def ZT.f (l0:List Int) (a1:Int):Option Int:=denF ZT.E ZT.fn ZT.enc (l0,a1,())
noncomputable def ZT.l0 (x0:List Int) (x1:Int) (x7:Int) (x8:Int):Option Int:=denAt ZT.E ZT.fn ZT.enc [1,0,1,0] { fr:=[(0,.lf (.sl (.int .i64) x0)),(1,.lf (.int .i64 x1)),(7,.lf (.int .i64 x7)),(8,.lf (.int .i64 x8))],ob:=[],nx:=0 }
theorem ZT.f_eq (l0:List Int) (a1:Int):ZT.f l0 a1=ZT.l0 l0 a1 (l0.length:Int) 0:=by kernel_rfl
theorem ZT.l0_eq (x0:List Int) (x1:Int) (x7:Int) (x8:Int):ZT.l0 x0 x1 x7 x8=if x8 < x7 then(if 0≤x8 then(if x8 < (x0.length:Int)then(if x1=(rd x0 x8)then(some x8)else(ZT.l0 x0 x1 x7 (wrapI (x8+1))))else none)else none)else(some (-1)):=(Zv _ _ _ _).trans (by kernel_rfl)
noncomputable def ZT.con:Con:=⟨ZT.fn.ins,ZT.fn.outs,Int,fun x=>ZT.f x.1 x.2.1,fun r=>((r,()),(()))⟩
theorem ZT.valid:Valid Tryz.prog 173 ZT.con:=fnV ZT.fn ZT.E ZT.enc ⟨ttOk,Zaq⟩ Tryz.func173
end Go.Proofs.YthmcpmnhdbeahaaGreat.P
namespace Go.Proofs.YthmcpmnhdbeahaaGreat.P
open Go Go.RowKit Go.Proofs.YthmcpmnhdbeahaaGreat.D
noncomputable def Zab.E:Env:={ tt:=TT,con:=[(173,ZT.con)],frz:=[],rows:=[],live:=[],n:=9,pin:=0,nils:=[] }
noncomputable def Zab.fn:D.Fn:={ body:=Tryz.f190.body.getD .skip,res:=Tryz.f190.results.toList,ins:=[.one (.v (.sl 2 (.int .i64))),.one (.v (.int .i64))],outs:=[.one (.v .bool)] }
def Zab.enc (y:lsd (flats Zab.fn.outs)×lsd (ios Zab.fn.ins)):Bool:=y.1.1
noncomputable def Zab.f (l0:List Int) (a1:Int):Option Bool:=denF Zab.E Zab.fn Zab.enc (l0,a1,())
theorem Zab.f_eq (l0:List Int) (a1:Int):Zab.f l0 a1=(ZT.f l0 a1).bind fun t7=>some (decide (t7≥0)):=by kernel_rfl
noncomputable def Zab.con:Con:=⟨Zab.fn.ins,Zab.fn.outs,Bool,fun x=>Zab.f x.1 x.2.1,fun r=>((r,()),(()))⟩
theorem Zab.valid:Valid Tryz.prog 190 Zab.con:=fnV Zab.fn Zab.E Zab.enc ⟨ttOk,(Zs ZT.valid Zaq)⟩ Tryz.func190
end Go.Proofs.YthmcpmnhdbeahaaGreat.P
namespace Go.Proofs.YthmcpmnhdbeahaaGreat.P
open Go Go.RowKit Go.Proofs.YthmcpmnhdbeahaaGreat.D
noncomputable def ZI.E:Env:={ tt:=TT,con:=[(139,Zan.con),(93,Za3.con),(190,Zab.con)],frz:=[],rows:=[],live:=[(5,[1,3,18,19,20]),(11,[1,3,35,36]),(16,[1,3,6,35,36,68,69]),(19,[1,3,6,7,35,36,68,69,72,73])],n:=110,pin:=0,nils:=[] }
noncomputable def ZI.fn:D.Fn:={ body:=Tryz.f162.body.getD .skip,res:=Tryz.f162.results.toList,ins:=[.agg [.v (.sl 27 (.sl 2 (.int .i64)))]],outs:=[.one (.v .bool)] }
def ZI.enc (y:lsd (flats ZI.fn.outs)×lsd (ios ZI.fn.ins)):Bool:=y.1.1
noncomputable def ZI.f (l0_0:List (List Int)):Option Bool:=denF ZI.E ZI.fn ZI.enc (l0_0,())
noncomputable def ZI.l0 (x3:Int) (x18:List (List Int)) (x19:Int) (x20:Int) (b0_0:List (List Int)):Option Bool:=denAt ZI.E ZI.fn ZI.enc [1,1,1,0,1,0] { fr:=[(1,.lf (.box 0 0)),(3,.lf (.int .i64 x3)),(18,.lf (.sl (.sl 2 (.int .i64)) x18)),(19,.lf (.int .i64 x19)),(20,.lf (.int .i64 x20))],ob:=[(0,.box 26 false [.sl (.sl 2 (.int .i64)) b0_0])],nx:=1 }
noncomputable def ZI.l1 (x3:Int) (x35:Int) (x36:Int) (b0_0:List (List Int)):Option Bool:=denAt ZI.E ZI.fn ZI.enc [1,1,1,1,0,1,0] { fr:=[(1,.lf (.box 0 0)),(3,.lf (.int .i64 x3)),(35,.lf (.int .i64 x35)),(36,.lf (.int .i64 x36))],ob:=[(0,.box 26 false [.sl (.sl 2 (.int .i64)) b0_0])],nx:=1 }
noncomputable def ZI.l2 (x3:Int) (x6:Int) (x35:Int) (x36:Int) (x68:Int) (x69:Int) (b0_0:List (List Int)):Option Bool:=denAt ZI.E ZI.fn ZI.enc [1,1,1,1,0,1,0,0,1,1,0,0,1,1,1,0] { fr:=[(1,.lf (.box 0 0)),(3,.lf (.int .i64 x3)),(6,.lf (.int .i64 x6)),(35,.lf (.int .i64 x35)),(36,.lf (.int .i64 x36)),(68,.lf (.int .i64 x68)),(69,.lf (.int .i64 x69))],ob:=[(0,.box 26 false [.sl (.sl 2 (.int .i64)) b0_0])],nx:=1 }
noncomputable def ZI.l3 (x3:Int) (x6:Int) (x7:Int) (x35:Int) (x36:Int) (x68:Int) (x69:Int) (x72:Int) (x73:Int) (b0_0:List (List Int)):Option Bool:=denAt ZI.E ZI.fn ZI.enc [1,1,1,1,0,1,0,0,1,1,0,0,1,1,1,0,0,1,1,0,0,1,1,0] { fr:=[(1,.lf (.box 0 0)),(3,.lf (.int .i64 x3)),(6,.lf (.int .i64 x6)),(7,.lf (.int .i64 x7)),(35,.lf (.int .i64 x35)),(36,.lf (.int .i64 x36)),(68,.lf (.int .i64 x68)),(69,.lf (.int .i64 x69)),(72,.lf (.int .i64 x72)),(73,.lf (.int .i64 x73))],ob:=[(0,.box 26 false [.sl (.sl 2 (.int .i64)) b0_0])],nx:=1 }
theorem ZI.f_eq (l0_0:List (List Int)):ZI.f l0_0=(Zan.f l0_0).bind fun t10=>if t10 < 1 then(some false)else(if t10 > 8 then(some false)else(ZI.l0 t10 l0_0 (l0_0.length:Int) 0 l0_0)):=by kernel_rfl
theorem ZI.l0_eq (x3:Int) (x18:List (List Int)) (x19:Int) (x20:Int) (b0_0:List (List Int)):ZI.l0 x3 x18 x19 x20 b0_0=if x20 < x19 then(if 0≤x20 then(if x20 < (x18.length:Int)then(if((row x18 x20).length:Int)=x3 then((Za3.f x3 (row x18 x20)).bind fun t31=>if t31=true then(ZI.l0 x3 x18 x19 (wrapI (x20+1)) b0_0)else(some false))else(some false))else none)else none)else(ZI.l1 x3 x3 0 b0_0):=(Zv _ _ _ _).trans (by kernel_rfl)
theorem ZI.l1_eq (x3:Int) (x35:Int) (x36:Int) (b0_0:List (List Int)):ZI.l1 x3 x35 x36 b0_0=if x36 < x35 then(if 0 < (b0_0.length:Int)then(if 0≤x36 then(if x36 < ((row b0_0 0).length:Int)then(if(T b0_0 0 x36)=x36 then(if 0≤x36 then(if x36 < (b0_0.length:Int)then(if 0 < ((row b0_0 x36).length:Int)then(if(T b0_0 x36 0)=x36 then(if 0≤x36 then(if x36 < (b0_0.length:Int)then((Zab.f (row b0_0 x36) 0).bind fun t65=>if t65=true then(ZI.l2 x3 x36 x35 x36 x3 0 b0_0)else(some false))else none)else none)else(some false))else none)else none)else none)else(some false))else none)else none)else none)else(some true):=(Zv _ _ _ _).trans (by kernel_rfl)
theorem ZI.l2_eq (x3:Int) (x6:Int) (x35:Int) (x36:Int) (x68:Int) (x69:Int) (b0_0:List (List Int)):ZI.l2 x3 x6 x35 x36 x68 x69 b0_0=if x69 < x68 then(ZI.l3 x3 x6 x69 x35 x36 x68 x69 x3 0 b0_0)else(ZI.l1 x3 x35 (wrapI (x36+1)) b0_0):=(Zv _ _ _ _).trans (by kernel_rfl)
theorem ZI.l3_eq (x3:Int) (x6:Int) (x7:Int) (x35:Int) (x36:Int) (x68:Int) (x69:Int) (x72:Int) (x73:Int) (b0_0:List (List Int)):ZI.l3 x3 x6 x7 x35 x36 x68 x69 x72 x73 b0_0=if x73 < x72 then(if 0≤x6 then(if x6 < (b0_0.length:Int)then(if 0≤x7 then(if x7 < ((row b0_0 x6).length:Int)then(if 0≤T b0_0 x6 x7 then(if T b0_0 x6 x7 < (b0_0.length:Int)then(if 0≤x73 then(if x73 < ((row b0_0 (T b0_0 x6 x7)).length:Int)then(if 0≤x6 then(if x6 < (b0_0.length:Int)then(if 0≤x7 then(if x7 < (b0_0.length:Int)then(if 0≤x73 then(if x73 < ((row b0_0 x7).length:Int)then(if 0≤T b0_0 x7 x73 then(if T b0_0 x7 x73 < ((row b0_0 x6).length:Int)then(if(T b0_0 (T b0_0 x6 x7) x73)=(T b0_0 x6 (T b0_0 x7 x73))then(ZI.l3 x3 x6 x7 x35 x36 x68 x69 x72 (wrapI (x73+1)) b0_0)else(some false))else none)else none)else none)else none)else none)else none)else none)else none)else none)else none)else none)else none)else none)else none)else none)else none)else(ZI.l2 x3 x6 x35 x36 x68 (wrapI (x69+1)) b0_0):=(Zv _ _ _ _).trans (by kernel_rfl)
noncomputable def ZI.con:Con:=⟨ZI.fn.ins,ZI.fn.outs,Bool,fun x=>ZI.f x.1,fun r=>((r,()),(()))⟩
theorem ZI.valid:Valid Tryz.prog 162 ZI.con:=fnV ZI.fn ZI.E ZI.enc ⟨ttOk,(Zs Zan.valid (Zs Za3.valid (Zs Zab.valid Zaq)))⟩ Tryz.func162
end Go.Proofs.YthmcpmnhdbeahaaGreat.P
namespace Go.Proofs.YthmcpmnhdbeahaaGreat.P
open Go Go.RowKit Go.Proofs.YthmcpmnhdbeahaaGreat.D
noncomputable def Zbp.E:Env:={ tt:=TT,con:=[],frz:=[],rows:=[],live:=[],n:=9,pin:=0,nils:=[] }
noncomputable def Zbp.fn:D.Fn:={ body:=Tryz.f163.body.getD .skip,res:=Tryz.f163.results.toList,ins:=[.one (.v (.int .i64))],outs:=[.one (.v .bool)] }
def Zbp.enc (y:lsd (flats Zbp.fn.outs)×lsd (ios Zbp.fn.ins)):Bool:=y.1.1
noncomputable def Zbp.f (a0:Int):Option Bool:=denF Zbp.E Zbp.fn Zbp.enc (a0,())
theorem Zbp.f_eq (a0:Int):Zbp.f a0=if a0≥2 then(some (decide (a0≤12)))else(some false):=by kernel_rfl
noncomputable def Zbp.con:Con:=⟨Zbp.fn.ins,Zbp.fn.outs,Bool,fun x=>Zbp.f x.1,fun r=>((r,()),(()))⟩
theorem Zbp.valid:Valid Tryz.prog 163 Zbp.con:=fnV Zbp.fn Zbp.E Zbp.enc ⟨ttOk,Zaq⟩ Tryz.func163
end Go.Proofs.YthmcpmnhdbeahaaGreat.P
namespace Go.Proofs.YthmcpmnhdbeahaaGreat.P
open Go Go.RowKit Go.Proofs.YthmcpmnhdbeahaaGreat.D
noncomputable def ZY.E:Env:={ tt:=TT,con:=[],frz:=[],rows:=[],live:=[(3,[2,5,8,9,10])],n:=24,pin:=0,nils:=[] }
noncomputable def ZY.fn:D.Fn:={ body:=Tryz.f172.body.getD .skip,res:=Tryz.f172.results.toList,ins:=[.agg [.v (.sl 27 (.sl 2 (.int .i64)))],.one (.v (.sl 2 (.int .i64)))],outs:=[.one (.v (.int .i64))] }
def ZY.enc (y:lsd (flats ZY.fn.outs)×lsd (ios ZY.fn.ins)):Int:=y.1.1
noncomputable def ZY.f (l0_0:List (List Int)) (l1:List Int):Option Int:=denF ZY.E ZY.fn ZY.enc (l0_0,l1,())
noncomputable def ZY.l0 (x5:Int) (x8:List Int) (x9:Int) (x10:Int) (b0_0:List (List Int)):Option Int:=denAt ZY.E ZY.fn ZY.enc [1,1,0,1,0] { fr:=[(2,.lf (.box 0 0)),(5,.lf (.int .i64 x5)),(8,.lf (.sl (.int .i64) x8)),(9,.lf (.int .i64 x9)),(10,.lf (.int .i64 x10))],ob:=[(0,.box 26 false [.sl (.sl 2 (.int .i64)) b0_0])],nx:=1 }
theorem ZY.f_eq (l0_0:List (List Int)) (l1:List Int):ZY.f l0_0 l1=ZY.l0 0 l1 (l1.length:Int) 0 l0_0:=by kernel_rfl
theorem ZY.l0_eq (x5:Int) (x8:List Int) (x9:Int) (x10:Int) (b0_0:List (List Int)):ZY.l0 x5 x8 x9 x10 b0_0=if x10 < x9 then(if 0≤x10 then(if x10 < (x8.length:Int)then(if 0≤x5 then(if x5 < (b0_0.length:Int)then(if 0≤rd x8 x10 then(if rd x8 x10 < ((row b0_0 x5).length:Int)then(ZY.l0 (T b0_0 x5 (rd x8 x10)) x8 x9 (wrapI (x10+1)) b0_0)else none)else none)else none)else none)else none)else none)else(some x5):=(Zv _ _ _ _).trans (by kernel_rfl)
noncomputable def ZY.con:Con:=⟨ZY.fn.ins,ZY.fn.outs,Int,fun x=>ZY.f x.1 x.2.1,fun r=>((r,()),(()))⟩
theorem ZY.valid:Valid Tryz.prog 172 ZY.con:=fnV ZY.fn ZY.E ZY.enc ⟨ttOk,Zaq⟩ Tryz.func172
end Go.Proofs.YthmcpmnhdbeahaaGreat.P
namespace Go.Proofs.YthmcpmnhdbeahaaGreat.P
open Go Go.RowKit Go.Proofs.YthmcpmnhdbeahaaGreat.D
noncomputable def ZbL.E:Env:={ tt:=TT,con:=[],frz:=[],rows:=[],live:=[(1,[0,1])],n:=12,pin:=0,nils:=[] }
noncomputable def ZbL.fn:D.Fn:={ body:=Tryz.f152.body.getD .skip,res:=Tryz.f152.results.toList,ins:=[.one (.v (.int .i64)),.one (.v (.int .i64))],outs:=[.one (.v (.int .i64))] }
def ZbL.enc (y:lsd (flats ZbL.fn.outs)×lsd (ios ZbL.fn.ins)):Int:=y.1.1
noncomputable def ZbL.f (a0:Int) (a1:Int):Option Int:=denF ZbL.E ZbL.fn ZbL.enc (a0,a1,())
noncomputable def ZbL.l0 (x0:Int) (x1:Int):Option Int:=denAt ZbL.E ZbL.fn ZbL.enc [1,0,0] { fr:=[(0,.lf (.int .i64 x0)),(1,.lf (.int .i64 x1))],ob:=[],nx:=0 }
theorem ZbL.f_eq (a0:Int) (a1:Int):ZbL.f a0 a1=ZbL.l0 a0 a1:=by kernel_rfl
theorem ZbL.l0_eq (x0:Int) (x1:Int):ZbL.l0 x0 x1=if x1=0 then(some x0)else(if x1=0 then none else(ZbL.l0 x1 ((x0:Int).tmod x1))):=(Zv _ _ _ _).trans (by kernel_rfl)
noncomputable def ZbL.con:Con:=⟨ZbL.fn.ins,ZbL.fn.outs,Int,fun x=>ZbL.f x.1 x.2.1,fun r=>((r,()),(()))⟩
theorem ZbL.valid:Valid Tryz.prog 152 ZbL.con:=fnV ZbL.fn ZbL.E ZbL.enc ⟨ttOk,Zaq⟩ Tryz.func152
end Go.Proofs.YthmcpmnhdbeahaaGreat.P
namespace Go.Proofs.YthmcpmnhdbeahaaGreat.P
open Go Go.RowKit Go.Proofs.YthmcpmnhdbeahaaGreat.D
noncomputable def ZbJ.E:Env:={ tt:=TT,con:=[(152,ZbL.con)],frz:=[],rows:=[],live:=[],n:=18,pin:=0,nils:=[] }
noncomputable def ZbJ.fn:D.Fn:={ body:=Tryz.f283.body.getD .skip,res:=Tryz.f283.results.toList,ins:=[.one (.v (.int .i64)),.one (.v (.int .i64))],outs:=[.one (.v .bool)] }
def ZbJ.enc (y:lsd (flats ZbJ.fn.outs)×lsd (ios ZbJ.fn.ins)):Bool:=y.1.1
noncomputable def ZbJ.f (a0:Int) (a1:Int):Option Bool:=denF ZbJ.E ZbJ.fn ZbJ.enc (a0,a1,())
theorem ZbJ.f_eq (a0:Int) (a1:Int):ZbJ.f a0 a1=if a1≥1 then(if a1 < a0 then((ZbL.f a0 a1).bind fun t15=>some (decide (t15=1)))else(some false))else(some false):=by kernel_rfl
noncomputable def ZbJ.con:Con:=⟨ZbJ.fn.ins,ZbJ.fn.outs,Bool,fun x=>ZbJ.f x.1 x.2.1,fun r=>((r,()),(()))⟩
theorem ZbJ.valid:Valid Tryz.prog 283 ZbJ.con:=fnV ZbJ.fn ZbJ.E ZbJ.enc ⟨ttOk,(Zs ZbL.valid Zaq)⟩ Tryz.func283
end Go.Proofs.YthmcpmnhdbeahaaGreat.P
namespace Go.Proofs.YthmcpmnhdbeahaaGreat.P
open Go Go.RowKit Go.Proofs.YthmcpmnhdbeahaaGreat.D
noncomputable def ZW.E:Env:={ tt:=TT,con:=[(163,Zbp.con),(139,Zan.con),(283,ZbJ.con),(172,ZY.con)],frz:=[],rows:=[],live:=[(4,[2,3,29,30,31]),(10,[2,3,42,43]),(13,[2,3,7,42,43,47,48])],n:=77,pin:=0,nils:=[] }
noncomputable def ZW.fn:D.Fn:={ body:=Tryz.f246.body.getD .skip,res:=Tryz.f246.results.toList,ins:=[.agg [.v (.sl 27 (.sl 2 (.int .i64)))],.agg [.v (.int .i64),.v (.sl 2 (.int .i64))]],outs:=[.one (.v .bool)] }
def ZW.enc (y:lsd (flats ZW.fn.outs)×lsd (ios ZW.fn.ins)):Bool:=y.1.1
noncomputable def ZW.f (l0_0:List (List Int)) (a1_0:Int) (l1_1:List Int):Option Bool:=denF ZW.E ZW.fn ZW.enc (l0_0,a1_0,l1_1,())
noncomputable def ZW.l0 (x29:List Int) (x30:Int) (x31:Int) (b0_0:List (List Int)) (b1_0:Int) (b1_1:List Int):Option Bool:=denAt ZW.E ZW.fn ZW.enc [1,1,0,1,0] { fr:=[(2,.lf (.box 0 0)),(3,.lf (.box 1 0)),(29,.lf (.sl (.int .i64) x29)),(30,.lf (.int .i64 x30)),(31,.lf (.int .i64 x31))],ob:=[(0,.box 26 false [.sl (.sl 2 (.int .i64)) b0_0]),(1,.box 29 false [.int .i64 b1_0,.sl (.int .i64) b1_1])],nx:=2 }
noncomputable def ZW.l1 (x42:Int) (x43:Int) (b0_0:List (List Int)) (b1_0:Int) (b1_1:List Int):Option Bool:=denAt ZW.E ZW.fn ZW.enc [1,1,1,0,1,0] { fr:=[(2,.lf (.box 0 0)),(3,.lf (.box 1 0)),(42,.lf (.int .i64 x42)),(43,.lf (.int .i64 x43))],ob:=[(0,.box 26 false [.sl (.sl 2 (.int .i64)) b0_0]),(1,.box 29 false [.int .i64 b1_0,.sl (.int .i64) b1_1])],nx:=2 }
noncomputable def ZW.l2 (x7:Int) (x42:Int) (x43:Int) (x47:Int) (x48:Int) (b0_0:List (List Int)) (b1_0:Int) (b1_1:List Int):Option Bool:=denAt ZW.E ZW.fn ZW.enc [1,1,1,0,1,0,0,1,1,0,0,1,1,0] { fr:=[(2,.lf (.box 0 0)),(3,.lf (.box 1 0)),(7,.lf (.int .i64 x7)),(42,.lf (.int .i64 x42)),(43,.lf (.int .i64 x43)),(47,.lf (.int .i64 x47)),(48,.lf (.int .i64 x48))],ob:=[(0,.box 26 false [.sl (.sl 2 (.int .i64)) b0_0]),(1,.box 29 false [.int .i64 b1_0,.sl (.int .i64) b1_1])],nx:=2 }
theorem ZW.f_eq (l0_0:List (List Int)) (a1_0:Int) (l1_1:List Int):ZW.f l0_0 a1_0 l1_1=(Zbp.f a1_0).bind fun t11=>if t11=true then((Zan.f l0_0).bind fun t18=>if(l1_1.length:Int)=t18 then(if 0 < (l1_1.length:Int)then(if(rd l1_1 0)=1 then(ZW.l0 l1_1 (l1_1.length:Int) 0 l0_0 a1_0 l1_1)else(some false))else none)else(some false))else(some false):=by kernel_rfl
theorem ZW.l0_eq (x29:List Int) (x30:Int) (x31:Int) (b0_0:List (List Int)) (b1_0:Int) (b1_1:List Int):ZW.l0 x29 x30 x31 b0_0 b1_0 b1_1=if x31 < x30 then(if 0≤x31 then(if x31 < (x29.length:Int)then((ZbJ.f b1_0 (rd x29 x31)).bind fun t38=>if t38=true then(ZW.l0 x29 x30 (wrapI (x31+1)) b0_0 b1_0 b1_1)else(some false))else none)else none)else((Zan.f b0_0).bind fun t42=>ZW.l1 t42 0 b0_0 b1_0 b1_1):=(Zv _ _ _ _).trans (by kernel_rfl)
theorem ZW.l1_eq (x42:Int) (x43:Int) (b0_0:List (List Int)) (b1_0:Int) (b1_1:List Int):ZW.l1 x42 x43 b0_0 b1_0 b1_1=if x43 < x42 then((Zan.f b0_0).bind fun t47=>ZW.l2 x43 x42 x43 t47 0 b0_0 b1_0 b1_1)else(some true):=(Zv _ _ _ _).trans (by kernel_rfl)
theorem ZW.l2_eq (x7:Int) (x42:Int) (x43:Int) (x47:Int) (x48:Int) (b0_0:List (List Int)) (b1_0:Int) (b1_1:List Int):ZW.l2 x7 x42 x43 x47 x48 b0_0 b1_0 b1_1=if x48 < x47 then((ZY.f b0_0 ([x7,x48]:List Int)).bind fun t57=>if 0≤t57 then(if t57 < (b1_1.length:Int)then(if 0≤x7 then(if x7 < (b1_1.length:Int)then(if 0≤x48 then(if x48 < (b1_1.length:Int)then(if b1_0=0 then none else(if(rd b1_1 t57)=((wrapI ((rd b1_1 x7)*(rd b1_1 x48)):Int).tmod b1_0)then(ZW.l2 x7 x42 x43 x47 (wrapI (x48+1)) b0_0 b1_0 b1_1)else(some false)))else none)else none)else none)else none)else none)else none)else(ZW.l1 x42 (wrapI (x43+1)) b0_0 b1_0 b1_1):=(Zv _ _ _ _).trans (by kernel_rfl)
noncomputable def ZW.con:Con:=⟨ZW.fn.ins,ZW.fn.outs,Bool,fun x=>ZW.f x.1 x.2.1 x.2.2.1,fun r=>((r,()),(()))⟩
theorem ZW.valid:Valid Tryz.prog 246 ZW.con:=fnV ZW.fn ZW.E ZW.enc ⟨ttOk,(Zs Zbp.valid (Zs Zan.valid (Zs ZbJ.valid (Zs ZY.valid Zaq))))⟩ Tryz.func246
end Go.Proofs.YthmcpmnhdbeahaaGreat.P
namespace Go.Proofs.YthmcpmnhdbeahaaGreat.P
open Go Go.RowKit Go.Proofs.YthmcpmnhdbeahaaGreat.D
noncomputable def Zal.E:Env:={ tt:=TT,con:=[(162,ZI.con),(246,ZW.con)],frz:=[],rows:=[],live:=[(2,[2,7,8,9])],n:=23,pin:=0,nils:=[] }
noncomputable def Zal.fn:D.Fn:={ body:=Tryz.f181.body.getD .skip,res:=Tryz.f181.results.toList,ins:=[.agg [.v (.sl 27 (.sl 2 (.int .i64)))],.one (.v (.sl 29 (.pr (.int .i64) (.sl 2 (.int .i64)))))],outs:=[.one (.v .bool)] }
def Zal.enc (y:lsd (flats Zal.fn.outs)×lsd (ios Zal.fn.ins)):Bool:=y.1.1
noncomputable def Zal.f (l0_0:List (List Int)) (l1:List (Int×(List Int))):Option Bool:=denF Zal.E Zal.fn Zal.enc (l0_0,l1,())
noncomputable def Zal.l0 (x7:List (Int×(List Int))) (x8:Int) (x9:Int) (b0_0:List (List Int)):Option Bool:=denAt Zal.E Zal.fn Zal.enc [1,0,1,0] { fr:=[(2,.lf (.box 0 0)),(7,.lf (.sl (.pr (.int .i64) (.sl 2 (.int .i64))) x7)),(8,.lf (.int .i64 x8)),(9,.lf (.int .i64 x9))],ob:=[(0,.box 26 false [.sl (.sl 2 (.int .i64)) b0_0])],nx:=1 }
theorem Zal.f_eq (l0_0:List (List Int)) (l1:List (Int×(List Int))):Zal.f l0_0 l1=Zal.l0 l1 (l1.length:Int) 0 l0_0:=by kernel_rfl
theorem Zal.l0_eq (x7:List (Int×(List Int))) (x8:Int) (x9:Int) (b0_0:List (List Int)):Zal.l0 x7 x8 x9 b0_0=if x9 < x8 then(if 0≤x9 then(if x9 < (x7.length:Int)then((ZI.f b0_0).bind fun t14=>if t14=true then((ZW.f b0_0 ((Ty.rd (.pr (.int .i64) (.sl 2 (.int .i64))) x7 x9).1) ((Ty.rd (.pr (.int .i64) (.sl 2 (.int .i64))) x7 x9).2)).bind fun t19=>if t19=true then(Zal.l0 x7 x8 (wrapI (x9+1)) b0_0)else(some false))else(some false))else none)else none)else(some true):=(Zv _ _ _ _).trans (by kernel_rfl)
noncomputable def Zal.con:Con:=⟨Zal.fn.ins,Zal.fn.outs,Bool,fun x=>Zal.f x.1 x.2.1,fun r=>((r,()),(()))⟩
theorem Zal.valid:Valid Tryz.prog 181 Zal.con:=fnV Zal.fn Zal.E Zal.enc ⟨ttOk,(Zs ZI.valid (Zs ZW.valid Zaq))⟩ Tryz.func181
end Go.Proofs.YthmcpmnhdbeahaaGreat.P
namespace Go.Proofs.YthmcpmnhdbeahaaGreat.P
open Go Go.RowKit Go.Proofs.YthmcpmnhdbeahaaGreat.D
noncomputable def Zau.E:Env:={ tt:=TT,con:=[(181,Zal.con)],frz:=[],rows:=[],live:=[],n:=9,pin:=0,nils:=[] }
noncomputable def Zau.fn:D.Fn:={ body:=Tryz.f107.body.getD .skip,res:=Tryz.f107.results.toList,ins:=[.agg [.v (.sl 27 (.sl 2 (.int .i64)))],.one (.v (.sl 29 (.pr (.int .i64) (.sl 2 (.int .i64)))))],outs:=[.one (.v (.int .i64))] }
def Zau.enc (y:lsd (flats Zau.fn.outs)×lsd (ios Zau.fn.ins)):Int:=y.1.1
noncomputable def Zau.f (l0_0:List (List Int)) (l1:List (Int×(List Int))):Option Int:=denF Zau.E Zau.fn Zau.enc (l0_0,l1,())
theorem Zau.f_eq (l0_0:List (List Int)) (l1:List (Int×(List Int))):Zau.f l0_0 l1=(Zal.f l0_0 l1).bind fun t7=>if t7=true then(some 0)else(some 1):=by kernel_rfl
noncomputable def Zau.con:Con:=⟨Zau.fn.ins,Zau.fn.outs,Int,fun x=>Zau.f x.1 x.2.1,fun r=>((r,()),(()))⟩
theorem Zau.valid:Valid Tryz.prog 107 Zau.con:=fnV Zau.fn Zau.E Zau.enc ⟨ttOk,(Zs Zal.valid Zaq)⟩ Tryz.func107
end Go.Proofs.YthmcpmnhdbeahaaGreat.P
namespace Go.Proofs.YthmcpmnhdbeahaaGreat.P
open Go Go.RowKit Go.Proofs.YthmcpmnhdbeahaaGreat.D
noncomputable def Zbq.E:Env:={ tt:=TT,con:=[(139,Zan.con),(93,Za3.con)],frz:=[],rows:=[],live:=[],n:=18,pin:=0,nils:=[] }
noncomputable def Zbq.fn:D.Fn:={ body:=Tryz.f187.body.getD .skip,res:=Tryz.f187.results.toList,ins:=[.agg [.v (.sl 27 (.sl 2 (.int .i64)))],.agg [.v (.int .i64),.v (.sl 2 (.int .i64))],.one (.v (.sl 2 (.int .i64)))],outs:=[.one (.v .bool)] }
def Zbq.enc (y:lsd (flats Zbq.fn.outs)×lsd (ios Zbq.fn.ins)):Bool:=y.1.1
noncomputable def Zbq.f (l0_0:List (List Int)) (a1_0:Int) (l1_1:List Int) (l2:List Int):Option Bool:=denF Zbq.E Zbq.fn Zbq.enc (l0_0,a1_0,l1_1,l2,())
theorem Zbq.f_eq (l0_0:List (List Int)) (a1_0:Int) (l1_1:List Int) (l2:List Int):Zbq.f l0_0 a1_0 l1_1 l2=(Zan.f l0_0).bind fun t10=>if(l2.length:Int)=t10 then((Za3.f a1_0 l2).bind fun t16=>some (decide (t16=true)))else(some false):=by kernel_rfl
noncomputable def Zbq.con:Con:=⟨Zbq.fn.ins,Zbq.fn.outs,Bool,fun x=>Zbq.f x.1 x.2.1 x.2.2.1 x.2.2.2.1,fun r=>((r,()),(()))⟩
theorem Zbq.valid:Valid Tryz.prog 187 Zbq.con:=fnV Zbq.fn Zbq.E Zbq.enc ⟨ttOk,(Zs Zan.valid (Zs Za3.valid Zaq))⟩ Tryz.func187
end Go.Proofs.YthmcpmnhdbeahaaGreat.P
namespace Go.Proofs.YthmcpmnhdbeahaaGreat.P
open Go Go.RowKit Go.Proofs.YthmcpmnhdbeahaaGreat.D
noncomputable def ZaC.E:Env:={ tt:=TT,con:=[(107,Zau.con),(187,Zbq.con)],frz:=[],rows:=[10],live:=[],n:=20,pin:=0,nils:=[] }
noncomputable def ZaC.fn:D.Fn:={ body:=Tryz.f118.body.getD .skip,res:=Tryz.f118.results.toList,ins:=[.agg [.v (.sl 27 (.sl 2 (.int .i64)))],.agg [.v (.int .i64),.v (.sl 2 (.int .i64))],.one (.v (.sl 2 (.int .i64)))],outs:=[.one (.v (.int .i64))] }
def ZaC.enc (y:lsd (flats ZaC.fn.outs)×lsd (ios ZaC.fn.ins)):Int:=y.1.1
noncomputable def ZaC.f (l0_0:List (List Int)) (a1_0:Int) (l1_1:List Int) (l2:List Int):Option Int:=denF ZaC.E ZaC.fn ZaC.enc (l0_0,a1_0,l1_1,l2,())
theorem ZaC.f_eq (l0_0:List (List Int)) (a1_0:Int) (l1_1:List Int) (l2:List Int):ZaC.f l0_0 a1_0 l1_1 l2=(Zau.f l0_0 ([(a1_0,l1_1)]:List (Int×(List Int)))).bind fun t11=>if t11=0 then((Zbq.f l0_0 a1_0 l1_1 l2).bind fun t18=>if t18=true then(some 0)else(some 2))else(some t11):=by kernel_rfl
noncomputable def ZaC.con:Con:=⟨ZaC.fn.ins,ZaC.fn.outs,Int,fun x=>ZaC.f x.1 x.2.1 x.2.2.1 x.2.2.2.1,fun r=>((r,()),(()))⟩
theorem ZaC.valid:Valid Tryz.prog 118 ZaC.con:=fnV ZaC.fn ZaC.E ZaC.enc ⟨ttOk,(Zs Zau.valid (Zs Zbq.valid Zaq))⟩ Tryz.func118
end Go.Proofs.YthmcpmnhdbeahaaGreat.P
namespace Go.Proofs.YthmcpmnhdbeahaaGreat.P
open Go Go.RowKit Go.Proofs.YthmcpmnhdbeahaaGreat.D
noncomputable def Z7.E:Env:={ tt:=TT,con:=[(139,Zan.con),(172,ZY.con)],frz:=[],rows:=[],live:=[(2,[2,3,4,10,11]),(5,[2,3,4,7,10,11,15,16])],n:=49,pin:=0,nils:=[] }
noncomputable def Z7.fn:D.Fn:={ body:=Tryz.f119.body.getD .skip,res:=Tryz.f119.results.toList,ins:=[.agg [.v (.sl 27 (.sl 2 (.int .i64)))],.agg [.v (.int .i64),.v (.sl 2 (.int .i64))],.one (.v (.sl 2 (.int .i64)))],outs:=[.one (.v .bool)] }
def Z7.enc (y:lsd (flats Z7.fn.outs)×lsd (ios Z7.fn.ins)):Bool:=y.1.1
noncomputable def Z7.f (l0_0:List (List Int)) (a1_0:Int) (l1_1:List Int) (l2:List Int):Option Bool:=denF Z7.E Z7.fn Z7.enc (l0_0,a1_0,l1_1,l2,())
noncomputable def Z7.l0 (x2:List Int) (x10:Int) (x11:Int) (b0_0:List (List Int)) (b1_0:Int) (b1_1:List Int):Option Bool:=denAt Z7.E Z7.fn Z7.enc [1,0,1,0] { fr:=[(2,.lf (.sl (.int .i64) x2)),(3,.lf (.box 0 0)),(4,.lf (.box 1 0)),(10,.lf (.int .i64 x10)),(11,.lf (.int .i64 x11))],ob:=[(0,.box 26 false [.sl (.sl 2 (.int .i64)) b0_0]),(1,.box 29 false [.int .i64 b1_0,.sl (.int .i64) b1_1])],nx:=2 }
noncomputable def Z7.l1 (x2:List Int) (x7:Int) (x10:Int) (x11:Int) (x15:Int) (x16:Int) (b0_0:List (List Int)) (b1_0:Int) (b1_1:List Int):Option Bool:=denAt Z7.E Z7.fn Z7.enc [1,0,1,0,0,1,1,0,0,1,1,0] { fr:=[(2,.lf (.sl (.int .i64) x2)),(3,.lf (.box 0 0)),(4,.lf (.box 1 0)),(7,.lf (.int .i64 x7)),(10,.lf (.int .i64 x10)),(11,.lf (.int .i64 x11)),(15,.lf (.int .i64 x15)),(16,.lf (.int .i64 x16))],ob:=[(0,.box 26 false [.sl (.sl 2 (.int .i64)) b0_0]),(1,.box 29 false [.int .i64 b1_0,.sl (.int .i64) b1_1])],nx:=2 }
theorem Z7.f_eq (l0_0:List (List Int)) (a1_0:Int) (l1_1:List Int) (l2:List Int):Z7.f l0_0 a1_0 l1_1 l2=(Zan.f l0_0).bind fun t10=>Z7.l0 l2 t10 0 l0_0 a1_0 l1_1:=by kernel_rfl
theorem Z7.l0_eq (x2:List Int) (x10:Int) (x11:Int) (b0_0:List (List Int)) (b1_0:Int) (b1_1:List Int):Z7.l0 x2 x10 x11 b0_0 b1_0 b1_1=if x11 < x10 then((Zan.f b0_0).bind fun t15=>Z7.l1 x2 x11 x10 x11 t15 0 b0_0 b1_0 b1_1)else(some true):=(Zv _ _ _ _).trans (by kernel_rfl)
theorem Z7.l1_eq (x2:List Int) (x7:Int) (x10:Int) (x11:Int) (x15:Int) (x16:Int) (b0_0:List (List Int)) (b1_0:Int) (b1_1:List Int):Z7.l1 x2 x7 x10 x11 x15 x16 b0_0 b1_0 b1_1=if x16 < x15 then(if 0≤x7 then(if x7 < (x2.length:Int)then(if 0≤x7 then(if x7 < (b1_1.length:Int)then(if 0≤x16 then(if x16 < (x2.length:Int)then((ZY.f b0_0 ([x7,x16]:List Int)).bind fun t39=>if 0≤t39 then(if t39 < (x2.length:Int)then(if b1_0=0 then none else(if((wrapI ((wrapI ((rd x2 x7)+(wrapI ((rd b1_1 x7)*(rd x2 x16))))) - (rd x2 t39)):Int).tmod b1_0)=0 then(Z7.l1 x2 x7 x10 x11 x15 (wrapI (x16+1)) b0_0 b1_0 b1_1)else(some false)))else none)else none)else none)else none)else none)else none)else none)else none)else(Z7.l0 x2 x10 (wrapI (x11+1)) b0_0 b1_0 b1_1):=(Zv _ _ _ _).trans (by kernel_rfl)
noncomputable def Z7.con:Con:=⟨Z7.fn.ins,Z7.fn.outs,Bool,fun x=>Z7.f x.1 x.2.1 x.2.2.1 x.2.2.2.1,fun r=>((r,()),(()))⟩
theorem Z7.valid:Valid Tryz.prog 119 Z7.con:=fnV Z7.fn Z7.E Z7.enc ⟨ttOk,(Zs Zan.valid (Zs ZY.valid Zaq))⟩ Tryz.func119
end Go.Proofs.YthmcpmnhdbeahaaGreat.P
namespace Go.Proofs.YthmcpmnhdbeahaaGreat.P
open Go Go.RowKit Go.Proofs.YthmcpmnhdbeahaaGreat.D
noncomputable def ZaN.E:Env:={ tt:=TT,con:=[(118,ZaC.con),(119,Z7.con)],frz:=[],rows:=[],live:=[],n:=20,pin:=0,nils:=[] }
noncomputable def ZaN.fn:D.Fn:={ body:=Tryz.f89.body.getD .skip,res:=Tryz.f89.results.toList,ins:=[.agg [.v (.sl 27 (.sl 2 (.int .i64)))],.agg [.v (.int .i64),.v (.sl 2 (.int .i64))],.one (.v (.sl 2 (.int .i64)))],outs:=[.one (.v (.int .i64))] }
def ZaN.enc (y:lsd (flats ZaN.fn.outs)×lsd (ios ZaN.fn.ins)):Int:=y.1.1
noncomputable def ZaN.f (l0_0:List (List Int)) (a1_0:Int) (l1_1:List Int) (l2:List Int):Option Int:=denF ZaN.E ZaN.fn ZaN.enc (l0_0,a1_0,l1_1,l2,())
theorem ZaN.f_eq (l0_0:List (List Int)) (a1_0:Int) (l1_1:List Int) (l2:List Int):ZaN.f l0_0 a1_0 l1_1 l2=(ZaC.f l0_0 a1_0 l1_1 l2).bind fun t11=>if t11=0 then((Z7.f l0_0 a1_0 l1_1 l2).bind fun t18=>if t18=true then(some 0)else(some 5))else(some t11):=by kernel_rfl
noncomputable def ZaN.con:Con:=⟨ZaN.fn.ins,ZaN.fn.outs,Int,fun x=>ZaN.f x.1 x.2.1 x.2.2.1 x.2.2.2.1,fun r=>((r,()),(()))⟩
theorem ZaN.valid:Valid Tryz.prog 89 ZaN.con:=fnV ZaN.fn ZaN.E ZaN.enc ⟨ttOk,(Zs ZaC.valid (Zs Z7.valid Zaq))⟩ Tryz.func89
end Go.Proofs.YthmcpmnhdbeahaaGreat.P
namespace Go.Proofs.YthmcpmnhdbeahaaGreat.P
open Go Go.RowKit Go.Proofs.YthmcpmnhdbeahaaGreat.D
noncomputable def ZaH.E:Env:={ tt:=TT,con:=[],frz:=[],rows:=[],live:=[],n:=6,pin:=0,nils:=[] }
noncomputable def ZaH.fn:D.Fn:={ body:=Tryz.f274.body.getD .skip,res:=Tryz.f274.results.toList,ins:=[.one (.v (.int .i64))],outs:=[.one (.v .bool)] }
def ZaH.enc (y:lsd (flats ZaH.fn.outs)×lsd (ios ZaH.fn.ins)):Bool:=y.1.1
noncomputable def ZaH.f (a0:Int):Option Bool:=denF ZaH.E ZaH.fn ZaH.enc (a0,())
theorem ZaH.f_eq (a0:Int):ZaH.f a0=some (!decide (a0=a0)):=by kernel_rfl
noncomputable def ZaH.con:Con:=⟨ZaH.fn.ins,ZaH.fn.outs,Bool,fun x=>ZaH.f x.1,fun r=>((r,()),(()))⟩
theorem ZaH.valid:Valid Tryz.prog 274 ZaH.con:=fnV ZaH.fn ZaH.E ZaH.enc ⟨ttOk,Zaq⟩ Tryz.func274
end Go.Proofs.YthmcpmnhdbeahaaGreat.P
namespace Go.Proofs.YthmcpmnhdbeahaaGreat.P
open Go Go.RowKit Go.Proofs.YthmcpmnhdbeahaaGreat.D
noncomputable def ZaX.E:Env:={ tt:=TT,con:=[(274,ZaH.con)],frz:=[],rows:=[],live:=[],n:=20,pin:=0,nils:=[] }
noncomputable def ZaX.fn:D.Fn:={ body:=Tryz.f244.body.getD .skip,res:=Tryz.f244.results.toList,ins:=[.one (.v (.int .i64)),.one (.v (.int .i64))],outs:=[.one (.v (.int .i64))] }
def ZaX.enc (y:lsd (flats ZaX.fn.outs)×lsd (ios ZaX.fn.ins)):Int:=y.1.1
noncomputable def ZaX.f (a0:Int) (a1:Int):Option Int:=denF ZaX.E ZaX.fn ZaX.enc (a0,a1,())
theorem ZaX.f_eq (a0:Int) (a1:Int):ZaX.f a0 a1=(ZaH.f a0).bind fun t8=>(ZaH.f a1).bind fun t10=>if t8=true then(if t10=true then(some 0)else(some (-1)))else(if t10=true then(some 1)else(if a0 < a1 then(some (-1))else(if a0 > a1 then(some 1)else(some 0)))):=by kernel_rfl
noncomputable def ZaX.con:Con:=⟨ZaX.fn.ins,ZaX.fn.outs,Int,fun x=>ZaX.f x.1 x.2.1,fun r=>((r,()),(()))⟩
theorem ZaX.valid:Valid Tryz.prog 244 ZaX.con:=fnV ZaX.fn ZaX.E ZaX.enc ⟨ttOk,(Zs ZaH.valid Zaq)⟩ Tryz.func244
end Go.Proofs.YthmcpmnhdbeahaaGreat.P
namespace Go.Proofs.YthmcpmnhdbeahaaGreat.P
open Go Go.RowKit Go.Proofs.YthmcpmnhdbeahaaGreat.D
noncomputable def Zy.E:Env:={ tt:=TT,con:=[(244,ZaX.con)],frz:=[],rows:=[],live:=[(2,[0,1,9,10,11])],n:=36,pin:=0,nils:=[] }
noncomputable def Zy.fn:D.Fn:={ body:=Tryz.f178.body.getD .skip,res:=Tryz.f178.results.toList,ins:=[.one (.v (.sl 2 (.int .i64))),.one (.v (.sl 2 (.int .i64)))],outs:=[.one (.v (.int .i64))] }
def Zy.enc (y:lsd (flats Zy.fn.outs)×lsd (ios Zy.fn.ins)):Int:=y.1.1
noncomputable def Zy.f (l0:List Int) (l1:List Int):Option Int:=denF Zy.E Zy.fn Zy.enc (l0,l1,())
noncomputable def Zy.l0 (x0:List Int) (x1:List Int) (x9:List Int) (x10:Int) (x11:Int):Option Int:=denAt Zy.E Zy.fn Zy.enc [1,0,1,0] { fr:=[(0,.lf (.sl (.int .i64) x0)),(1,.lf (.sl (.int .i64) x1)),(9,.lf (.sl (.int .i64) x9)),(10,.lf (.int .i64 x10)),(11,.lf (.int .i64 x11))],ob:=[],nx:=0 }
theorem Zy.f_eq (l0:List Int) (l1:List Int):Zy.f l0 l1=Zy.l0 l0 l1 l0 (l0.length:Int) 0:=by kernel_rfl
theorem Zy.l0_eq (x0:List Int) (x1:List Int) (x9:List Int) (x10:Int) (x11:Int):Zy.l0 x0 x1 x9 x10 x11=if x11 < x10 then(if 0≤x11 then(if x11 < (x9.length:Int)then(if x11≥(x1.length:Int)then(some 1)else(if 0≤x11 then(if x11 < (x1.length:Int)then((ZaX.f (rd x9 x11) (rd x1 x11)).bind fun t26=>if t26=0 then(Zy.l0 x0 x1 x9 x10 (wrapI (x11+1)))else(some t26))else none)else none))else none)else none)else(if(x0.length:Int) < (x1.length:Int)then(some (-1))else(some 0)):=(Zv _ _ _ _).trans (by kernel_rfl)
noncomputable def Zy.con:Con:=⟨Zy.fn.ins,Zy.fn.outs,Int,fun x=>Zy.f x.1 x.2.1,fun r=>((r,()),(()))⟩
theorem Zy.valid:Valid Tryz.prog 178 Zy.con:=fnV Zy.fn Zy.E Zy.enc ⟨ttOk,(Zs ZaX.valid Zaq)⟩ Tryz.func178
end Go.Proofs.YthmcpmnhdbeahaaGreat.P
namespace Go.Proofs.YthmcpmnhdbeahaaGreat.P
open Go Go.RowKit Go.Proofs.YthmcpmnhdbeahaaGreat.D
noncomputable def ZJ.E:Env:={ tt:=TT,con:=[(178,Zy.con)],frz:=[],rows:=[],live:=[(3,[1,3,7,13,14,15]),(7,[1,3,7,9,10,13,14,15,20,21,22])],n:=51,pin:=0,nils:=[] }
noncomputable def ZJ.fn:D.Fn:={ body:=Tryz.f97.body.getD .skip,res:=Tryz.f97.results.toList,ins:=[.agg [.v (.int .i64),.v (.sl 2 (.int .i64))],.one (.v (.sl 2 (.int .i64))),.one (.v (.sl 27 (.sl 2 (.int .i64))))],outs:=[.one (.own 2 true (.int .i64))] }
def ZJ.enc (y:lsd (flats ZJ.fn.outs)×lsd (ios ZJ.fn.ins)):(List Int):=y.1.1
noncomputable def ZJ.f (a0_0:Int) (l0_1:List Int) (l1:List Int) (l2:List (List Int)):Option (List Int):=denF ZJ.E ZJ.fn ZJ.enc (a0_0,l0_1,l1,l2,())
noncomputable def ZJ.l0 (x1:List Int) (x13:List (List Int)) (x14:Int) (x15:Int) (b0_0:Int) (b0_1:List Int):Option (List Int):=denAt ZJ.E ZJ.fn ZJ.enc [1,1,0,1,0] { fr:=[(1,.lf (.sl (.int .i64) x1)),(3,.lf (.box 0 0)),(7,.lf (.nil)),(13,.lf (.sl (.sl 2 (.int .i64)) x13)),(14,.lf (.int .i64 x14)),(15,.lf (.int .i64 x15))],ob:=[(0,.box 29 false [.int .i64 b0_0,.sl (.int .i64) b0_1])],nx:=1 }
noncomputable def ZJ.l1 (x1:List Int) (x9:List Int) (x13:List (List Int)) (x14:Int) (x15:Int) (x20:List Int) (x21:Int) (x22:Int) (b0_0:Int) (b0_1:List Int) (r1:List Int):Option (List Int):=denAt ZJ.E ZJ.fn ZJ.enc [1,1,0,1,0,0,1,1,0,0,1,1,0,1,0] { fr:=[(1,.lf (.sl (.int .i64) x1)),(3,.lf (.box 0 0)),(7,.lf (.nil)),(9,.lf (.sl (.int .i64) x9)),(10,.lf (.own 1)),(13,.lf (.sl (.sl 2 (.int .i64)) x13)),(14,.lf (.int .i64 x14)),(15,.lf (.int .i64 x15)),(20,.lf (.sl (.int .i64) x20)),(21,.lf (.int .i64 x21)),(22,.lf (.int .i64 x22))],ob:=[(0,.box 29 false [.int .i64 b0_0,.sl (.int .i64) b0_1]),(1,.row 2 true (.int .i64) r1)],nx:=2 }
noncomputable def ZJ.l2 (x1:List Int) (x13:List (List Int)) (x14:Int) (x15:Int) (b0_0:Int) (b0_1:List Int) (r1:List Int):Option (List Int):=denAt ZJ.E ZJ.fn ZJ.enc [1,1,0,1,0] { fr:=[(1,.lf (.sl (.int .i64) x1)),(3,.lf (.box 0 0)),(7,.lf (.own 1)),(13,.lf (.sl (.sl 2 (.int .i64)) x13)),(14,.lf (.int .i64 x14)),(15,.lf (.int .i64 x15))],ob:=[(0,.box 29 false [.int .i64 b0_0,.sl (.int .i64) b0_1]),(1,.row 2 true (.int .i64) r1)],nx:=2 }
noncomputable def ZJ.l3 (x1:List Int) (x9:List Int) (x13:List (List Int)) (x14:Int) (x15:Int) (x20:List Int) (x21:Int) (x22:Int) (b0_0:Int) (b0_1:List Int) (r1:List Int) (r2:List Int):Option (List Int):=denAt ZJ.E ZJ.fn ZJ.enc [1,1,0,1,0,0,1,1,0,0,1,1,0,1,0] { fr:=[(1,.lf (.sl (.int .i64) x1)),(3,.lf (.box 0 0)),(7,.lf (.own 1)),(9,.lf (.sl (.int .i64) x9)),(10,.lf (.own 2)),(13,.lf (.sl (.sl 2 (.int .i64)) x13)),(14,.lf (.int .i64 x14)),(15,.lf (.int .i64 x15)),(20,.lf (.sl (.int .i64) x20)),(21,.lf (.int .i64 x21)),(22,.lf (.int .i64 x22))],ob:=[(0,.box 29 false [.int .i64 b0_0,.sl (.int .i64) b0_1]),(1,.row 2 true (.int .i64) r1),(2,.row 2 true (.int .i64) r2)],nx:=3 }
theorem ZJ.f_eq (a0_0:Int) (l0_1:List Int) (l1:List Int) (l2:List (List Int)):ZJ.f a0_0 l0_1 l1 l2=ZJ.l0 l1 l2 (l2.length:Int) 0 a0_0 l0_1:=by kernel_rfl
theorem ZJ.l0_eq (x1:List Int) (x13:List (List Int)) (x14:Int) (x15:Int) (b0_0:Int) (b0_1:List Int):ZJ.l0 x1 x13 x14 x15 b0_0 b0_1=if x15 < x14 then(if 0≤x15 then(if x15 < (x13.length:Int)then(ZJ.l1 x1 (row x13 x15) x13 x14 x15 x1 (x1.length:Int) 0 b0_0 b0_1 ([]:List Int))else none)else none)else(some ([]:List Int)):=(Zv _ _ _ _).trans (by kernel_rfl)
theorem ZJ.l1_eq (x1:List Int) (x9:List Int) (x13:List (List Int)) (x14:Int) (x15:Int) (x20:List Int) (x21:Int) (x22:Int) (b0_0:Int) (b0_1:List Int) (r1:List Int):ZJ.l1 x1 x9 x13 x14 x15 x20 x21 x22 b0_0 b0_1 r1=if x22 < x21 then(if 0≤x22 then(if x22 < (x20.length:Int)then(if 0≤x22 then(if x22 < (x9.length:Int)then(if b0_0=0 then none else(if r1.length+([(wrapI ((rd x20 x22)+(rd x9 x22)):Int).tmod b0_0]:List Int).length≤17592186044416 then(ZJ.l1 x1 x9 x13 x14 x15 x20 x21 (wrapI (x22+1)) b0_0 b0_1 (r1++([(wrapI ((rd x20 x22)+(rd x9 x22)):Int).tmod b0_0]:List Int)))else none))else none)else none)else none)else none)else(ZJ.l2 x1 x13 x14 (wrapI (x15+1)) b0_0 b0_1 r1):=(Zv _ _ _ _).trans (by kernel_rfl)
theorem ZJ.l2_eq (x1:List Int) (x13:List (List Int)) (x14:Int) (x15:Int) (b0_0:Int) (b0_1:List Int) (r1:List Int):ZJ.l2 x1 x13 x14 x15 b0_0 b0_1 r1=if x15 < x14 then(if 0≤x15 then(if x15 < (x13.length:Int)then(ZJ.l3 x1 (row x13 x15) x13 x14 x15 x1 (x1.length:Int) 0 b0_0 b0_1 r1 ([]:List Int))else none)else none)else(some r1):=(Zv _ _ _ _).trans (by kernel_rfl)
theorem ZJ.l3_eq (x1:List Int) (x9:List Int) (x13:List (List Int)) (x14:Int) (x15:Int) (x20:List Int) (x21:Int) (x22:Int) (b0_0:Int) (b0_1:List Int) (r1:List Int) (r2:List Int):ZJ.l3 x1 x9 x13 x14 x15 x20 x21 x22 b0_0 b0_1 r1 r2=if x22 < x21 then(if 0≤x22 then(if x22 < (x20.length:Int)then(if 0≤x22 then(if x22 < (x9.length:Int)then(if b0_0=0 then none else(if r2.length+([(wrapI ((rd x20 x22)+(rd x9 x22)):Int).tmod b0_0]:List Int).length≤17592186044416 then(ZJ.l3 x1 x9 x13 x14 x15 x20 x21 (wrapI (x22+1)) b0_0 b0_1 r1 (r2++([(wrapI ((rd x20 x22)+(rd x9 x22)):Int).tmod b0_0]:List Int)))else none))else none)else none)else none)else none)else(if 0 < r1.length then((Zy.f r2 r1).bind fun t45=>if t45 < 0 then(ZJ.l2 x1 x13 x14 (wrapI (x15+1)) b0_0 b0_1 r2)else(ZJ.l2 x1 x13 x14 (wrapI (x15+1)) b0_0 b0_1 r1))else none):=(Zv _ _ _ _).trans (by kernel_rfl)
noncomputable def ZJ.con:Con:=⟨ZJ.fn.ins,ZJ.fn.outs,(List Int),fun x=>ZJ.f x.1 x.2.1 x.2.2.1 x.2.2.2.1,fun r=>((r,()),(()))⟩
theorem ZJ.valid:Valid Tryz.prog 97 ZJ.con:=fnV ZJ.fn ZJ.E ZJ.enc ⟨ttOk,(Zs Zy.valid Zaq)⟩ Tryz.func97
end Go.Proofs.YthmcpmnhdbeahaaGreat.P
namespace Go.Proofs.YthmcpmnhdbeahaaGreat.P
open Go Go.RowKit Go.Proofs.YthmcpmnhdbeahaaGreat.D
noncomputable def ZP.E:Env:={ tt:=TT,con:=[],frz:=[],rows:=[],live:=[(4,[0,1,12,13])],n:=26,pin:=0,nils:=[] }
noncomputable def ZP.fn:D.Fn:={ body:=Tryz.f115.body.getD .skip,res:=Tryz.f115.results.toList,ins:=[.one (.v (.sl 2 (.int .i64))),.one (.v (.sl 2 (.int .i64)))],outs:=[.one (.v .bool)] }
def ZP.enc (y:lsd (flats ZP.fn.outs)×lsd (ios ZP.fn.ins)):Bool:=y.1.1
noncomputable def ZP.f (l0:List Int) (l1:List Int):Option Bool:=denF ZP.E ZP.fn ZP.enc (l0,l1,())
noncomputable def ZP.l0 (x0:List Int) (x1:List Int) (x12:Int) (x13:Int):Option Bool:=denAt ZP.E ZP.fn ZP.enc [1,1,0,1,0] { fr:=[(0,.lf (.sl (.int .i64) x0)),(1,.lf (.sl (.int .i64) x1)),(12,.lf (.int .i64 x12)),(13,.lf (.int .i64 x13))],ob:=[],nx:=0 }
theorem ZP.f_eq (l0:List Int) (l1:List Int):ZP.f l0 l1=if(l0.length:Int)=(l1.length:Int)then(ZP.l0 l0 l1 (l0.length:Int) 0)else(some false):=by kernel_rfl
theorem ZP.l0_eq (x0:List Int) (x1:List Int) (x12:Int) (x13:Int):ZP.l0 x0 x1 x12 x13=if x13 < x12 then(if 0≤x13 then(if x13 < (x0.length:Int)then(if 0≤x13 then(if x13 < (x1.length:Int)then(if(rd x0 x13)=(rd x1 x13)then(ZP.l0 x0 x1 x12 (wrapI (x13+1)))else(some false))else none)else none)else none)else none)else(some true):=(Zv _ _ _ _).trans (by kernel_rfl)
noncomputable def ZP.con:Con:=⟨ZP.fn.ins,ZP.fn.outs,Bool,fun x=>ZP.f x.1 x.2.1,fun r=>((r,()),(()))⟩
theorem ZP.valid:Valid Tryz.prog 115 ZP.con:=fnV ZP.fn ZP.E ZP.enc ⟨ttOk,Zaq⟩ Tryz.func115
end Go.Proofs.YthmcpmnhdbeahaaGreat.P
namespace Go.Proofs.YthmcpmnhdbeahaaGreat.P
open Go Go.RowKit Go.Proofs.YthmcpmnhdbeahaaGreat.D
noncomputable def Zbj.E:Env:={ tt:=TT,con:=[],frz:=[],rows:=[],live:=[(3,[1,5,9,10,11])],n:=23,pin:=0,nils:=[] }
noncomputable def Zbj.fn:D.Fn:={ body:=Tryz.f94.body.getD .skip,res:=Tryz.f94.results.toList,ins:=[.one (.v (.sl 2 (.int .i64))),.one (.fn [(.int .i64)] (.int .i64))],outs:=[.one (.own 2 true (.int .i64))] }
def Zbj.enc (y:lsd (flats Zbj.fn.outs)×lsd (ios Zbj.fn.ins)):(List Int):=y.1.1
noncomputable def Zbj.f (l0:List Int) (f1:Int→Option Int):Option (List Int):=denF Zbj.E Zbj.fn Zbj.enc (l0,fun x=>f1 x.1,())
noncomputable def Zbj.l0 (fx1:Int→Option Int) (x9:List Int) (x10:Int) (x11:Int) (r0:List Int):Option (List Int):=denAt Zbj.E Zbj.fn Zbj.enc [1,1,0,1,0] { fr:=[(1,.lf (.fn [(.int .i64)] (.int .i64) (fun x=>fx1 x.1))),(5,.lf (.own 0)),(9,.lf (.sl (.int .i64) x9)),(10,.lf (.int .i64 x10)),(11,.lf (.int .i64 x11))],ob:=[(0,.row 2 true (.int .i64) r0)],nx:=1 }
theorem Zbj.f_eq (l0:List Int) (f1:Int→Option Int):Zbj.f l0 f1=Zbj.l0 f1 l0 (l0.length:Int) 0 ([]:List Int):=by kernel_rfl
theorem Zbj.l0_eq (fx1:Int→Option Int) (x9:List Int) (x10:Int) (x11:Int) (r0:List Int):Zbj.l0 fx1 x9 x10 x11 r0=if x11 < x10 then(if 0≤x11 then(if x11 < (x9.length:Int)then((fx1 (rd x9 x11)).bind fun t18=>if r0.length+([t18]:List Int).length≤17592186044416 then(Zbj.l0 fx1 x9 x10 (wrapI (x11+1)) (r0++([t18]:List Int)))else none)else none)else none)else(some r0):=(Zv _ _ _ _).trans (by kernel_rfl)
noncomputable def Zbj.con:Con:=⟨Zbj.fn.ins,Zbj.fn.outs,(List Int),fun x=>Zbj.f x.1 (fun z0=>x.2.1 (z0,())),fun r=>((r,()),(()))⟩
theorem Zbj.valid:Valid Tryz.prog 94 Zbj.con:=fnV Zbj.fn Zbj.E Zbj.enc ⟨ttOk,Zaq⟩ Tryz.func94
end Go.Proofs.YthmcpmnhdbeahaaGreat.P
namespace Go.Proofs.YthmcpmnhdbeahaaGreat.P
open Go Go.RowKit Go.Proofs.YthmcpmnhdbeahaaGreat.D
noncomputable def ZaD.E:Env:={ tt:=TT,con:=[],frz:=[],rows:=[],live:=[],n:=16,pin:=0,nils:=[] }
noncomputable def ZaD.fn:D.Fn:={ body:=Tryz.f194.body.getD .skip,res:=Tryz.f194.results.toList,ins:=[.one (.v (.int .i64)),.ptr true 2 [.v (.int .i64)],.ptr true 29 [.v (.int .i64),.v (.sl 2 (.int .i64))]],outs:=[.one (.v (.int .i64))] }
def ZaD.enc (y:lsd (flats ZaD.fn.outs)×lsd (ios ZaD.fn.ins)):Int:=y.1.1
noncomputable def ZaD.f (a0:Int) (a1:Int) (a2_0:Int) (l2_1:List Int):Option Int:=denF ZaD.E ZaD.fn ZaD.enc (a0,a1,a2_0,l2_1,())
theorem ZaD.f_eq (a0:Int) (a1:Int) (a2_0:Int) (l2_1:List Int):ZaD.f a0 a1 a2_0 l2_1=if a2_0=0 then none else(some ((wrapI ((wrapI ((wrapI (a0*a1))+a2_0)) - a1):Int).tmod a2_0)):=by kernel_rfl
noncomputable def ZaD.con:Con:=⟨ZaD.fn.ins,ZaD.fn.outs,Int,fun x=>ZaD.f x.1 x.2.1 x.2.2.1 x.2.2.2.1,fun r=>((r,()),(()))⟩
theorem ZaD.valid:Valid Tryz.prog 194 ZaD.con:=fnV ZaD.fn ZaD.E ZaD.enc ⟨ttOk,Zaq⟩ Tryz.func194
end Go.Proofs.YthmcpmnhdbeahaaGreat.P
namespace Go.Proofs.YthmcpmnhdbeahaaGreat.P
open Go Go.RowKit Go.Proofs.YthmcpmnhdbeahaaGreat.D
noncomputable def ZaO.E:Env:={ tt:=TT,con:=[(94,Zbj.con),(194,ZaD.con)],frz:=[],rows:=[],live:=[],n:=9,pin:=0,nils:=[] }
noncomputable def ZaO.fn:D.Fn:={ body:=Tryz.f128.body.getD .skip,res:=Tryz.f128.results.toList,ins:=[.agg [.v (.int .i64),.v (.sl 2 (.int .i64))],.one (.v (.int .i64))],outs:=[.one (.own 2 true (.int .i64))] }
def ZaO.enc (y:lsd (flats ZaO.fn.outs)×lsd (ios ZaO.fn.ins)):(List Int):=y.1.1
noncomputable def ZaO.f (a0_0:Int) (l0_1:List Int) (a1:Int):Option (List Int):=denF ZaO.E ZaO.fn ZaO.enc (a0_0,l0_1,a1,())
theorem ZaO.f_eq (a0_0:Int) (l0_1:List Int) (a1:Int):ZaO.f a0_0 l0_1 a1=(Zbj.f l0_1 (fun z0=>(ZaD.f z0 a1 a0_0 l0_1).map fun z=>z)).bind fun t8=>some t8:=by kernel_rfl
noncomputable def ZaO.con:Con:=⟨ZaO.fn.ins,ZaO.fn.outs,(List Int),fun x=>ZaO.f x.1 x.2.1 x.2.2.1,fun r=>((r,()),(()))⟩
theorem ZaO.valid:Valid Tryz.prog 128 ZaO.con:=fnV ZaO.fn ZaO.E ZaO.enc ⟨ttOk,(Zs Zbj.valid (Zs ZaD.valid Zaq))⟩ Tryz.func128
end Go.Proofs.YthmcpmnhdbeahaaGreat.P
namespace Go.Proofs.YthmcpmnhdbeahaaGreat.R
open Go Go.RowKit Go.Proofs.YthmcpmnhdbeahaaGreat.D
theorem ti3:TiOk Tryz.prog 3 ⟨.int .i64,1,8,[.int .i64 0],(.int .i64),true⟩:=tiMk (show Tryz.prog.underlying 3=some (.int .i64)by kernel_rfl) (by kernel_rfl) (by kernel_rfl) (by kernel_rfl)
theorem ti4:TiOk Tryz.prog 4 ⟨.bool,1,1,[fls],.bool,true⟩:=tiMk (show Tryz.prog.underlying 4=some .bool by kernel_rfl) (by kernel_rfl) (by kernel_rfl) (by kernel_rfl)
theorem ti24:TiOk Tryz.prog 24 ⟨.sl 27,1,24,[.nil],(.sl 27 .raw),true⟩:=tiMk (show Tryz.prog.underlying 24=some (.slice 27)by kernel_rfl) (by kernel_rfl) (by kernel_rfl) (by kernel_rfl)
theorem ti27:TiOk Tryz.prog 27 ⟨.sl 2,1,24,[.nil],.raw,true⟩:=tiMk (show Tryz.prog.underlying 27=some (.slice 2)by kernel_rfl) (by kernel_rfl) (by kernel_rfl) (by kernel_rfl)
theorem ti137:TiOk Tryz.prog 137 ⟨.int .u64,1,8,[.int .u64 0],(.int .u64),true⟩:=tiMk (show Tryz.prog.underlying 137=some (.int .u64)by kernel_rfl) (by kernel_rfl) (by kernel_rfl) (by kernel_rfl)
theorem ti141:TiOk Tryz.prog 141 ⟨.int .u64,1,8,[.int .u64 0],(.int .u64),true⟩:=tiMk (show Tryz.prog.underlying 141=some (.int .u64)by kernel_rfl) (by kernel_rfl) (by kernel_rfl) (by kernel_rfl)
theorem ti173:TiOk Tryz.prog 173 ⟨.int .i64,1,8,[.int .i64 0],(.int .i64),true⟩:=tiMk (show Tryz.prog.underlying 173=some (.int .i64)by kernel_rfl) (by kernel_rfl) (by kernel_rfl) (by kernel_rfl)
theorem ti207:TiOk Tryz.prog 207 ⟨.int .u64,1,8,[.int .u64 0],(.int .u64),true⟩:=tiMk (show Tryz.prog.underlying 207=some (.int .u64)by kernel_rfl) (by kernel_rfl) (by kernel_rfl) (by kernel_rfl)
noncomputable def TT:List (Nat×TI):=[(3,⟨.int .i64,1,8,[.int .i64 0],(.int .i64),true⟩),(4,⟨.bool,1,1,[fls],.bool,true⟩),(24,⟨.sl 27,1,24,[.nil],(.sl 27 .raw),true⟩),(27,⟨.sl 2,1,24,[.nil],.raw,true⟩),(137,⟨.int .u64,1,8,[.int .u64 0],(.int .u64),true⟩),(141,⟨.int .u64,1,8,[.int .u64 0],(.int .u64),true⟩),(173,⟨.int .i64,1,8,[.int .i64 0],(.int .i64),true⟩),(207,⟨.int .u64,1,8,[.int .u64 0],(.int .u64),true⟩)]
theorem ttOk:TtOk Tryz.prog TT:=(Zce ti3 (Zce ti4 (Zce ti24 (Zce ti27 (Zce ti137 (Zce ti141 (Zce ti173 (Zce ti207 ttNil))))))))
theorem fnV (f:D.Fn) (E:Env) {R:Type} (enc:lsd (flats f.outs)×lsd (ios f.ins)→R) {g:FuncId} {fn:Func} {dec:R→lsd (flats f.outs)×lsd (ios f.ins)} (hE:EnvOk Tryz.prog E) (h:Tryz.prog.funcs[g]? = some fn) (h1:fn.body=some f.body:=by kernel_rfl)
  (h2 : (fn.name == "runtime.NumGoroutine") = false := by kernel_rfl)
  (h3:fn.results.toList=f.res:=by kernel_rfl) (h4:fn.ntmps=E.n:=by kernel_rfl) (h5:f.ins.length≤E.n:=by decide) (h6:roOk f.ins=true:=by kernel_rfl) (h7:(Zcd f.ins 0).all (fun T=>Nat.blt T E.pin)=true:=by kernel_rfl) (h8:∀y,dec (enc y)=y:=by exact fun _=>rfl):Valid Tryz.prog g ⟨f.ins,f.outs,R,denF E f enc,dec⟩:=Zey hE (Checked.mixed Tryz.checked) ⟨h,h1,h2,h3,h4,h5,h6,h7⟩ h8
end Go.Proofs.YthmcpmnhdbeahaaGreat.R
