/- What the proof of the law CupProducts stands on, part 3: words, each Go function's Lean function, and that the Go code comes to its answers; no condition. (Packed by wip/myprint/pack.py out of what the kit's printer wrote, its words among it, partly by our patches of it, and out of texts of this session.) -/
import Derived.Eval
import Derived.Test.YtoljodiflhbohaaGreatDoorProg
import Derived.Test.YtoljodiflhbohaaGreatDoorChecked
import Derived.KernelRfl
import Derived.ChangeSlices
import Derived.ChangeSame
import Derived.Deep.Matrix
import Derived.Lib.SmallJoins
import Derived.Test.YtoljodiflhbohaaGreatDoorKCupProducts2
set_option linter.unusedVariables false
set_option linter.unusedSimpArgs false
namespace Go.Proofs.YtoljodiflhbohaaGreatDoor.D
open Go Go.RowKit
abbrev msk (listed:Array Bool):Nat→Bool:=fun j=>listed.getD j false
theorem Zk4 {listed:Array Bool} {i:Nat} (hi:i < listed.size):msk (listed.setIfInBounds i true)=Chg.also (msk listed) i:=by
 funext j
 unfold msk Chg.also
 by_cases h:j=i
 ·
  subst h;simp[Array.getD_eq_getD_getElem?,hi]
 ·
  rw[if_neg h];simp[Array.getD_eq_getD_getElem?,Array.getElem?_setIfInBounds_ne (Ne.symm h)]
theorem Zfc {ops:Array Oper} {listed:Array Bool} {i:Nat}:i∈Region.ready .any ops listed↔∃o,ops[i]? = some o∧listed.getD i true=false∧∀e∈o.after,Region.binds .any e=true→listed.getD e.on false=true:=by
 unfold Region.ready
 rw[List.mem_filter,List.mem_range]
 constructor
 ·
  rintro⟨h1,h2⟩
  rw[Bool.and_eq_true]at h2
  obtain⟨h2,h3⟩:=h2
  have ho:ops[i]? = some ops[i]:=Array.getElem?_eq_getElem h1
  refine⟨_,ho,by simpa using h2,fun e he hb => ?_⟩
  rw[ho]at h3
  simp only[Option.map_some,Option.getD_some,Array.all_eq_true_iff_forall_mem]at h3
  have:=h3 e he
  rw[hb]at this
  simpa using this
 ·
  rintro⟨o,ho,h2,h3⟩
  refine⟨(Array.getElem?_eq_some_iff.1 ho).1,?_⟩
  rw[Bool.and_eq_true,ho]
  refine⟨by simp[h2],?_⟩
  simp only[Option.map_some,Option.getD_some,Array.all_eq_true_iff_forall_mem]
  intro e he
  cases hb:Region.binds .any e with
  | false=>rfl
  | true=>simpa using h3 e he hb
section
variable {P:Program} {B:Nat→Prop} {n:Nat} {J:Rel} {a:Act} {w:World}
def Shut (ops:Array Oper) (m:Nat→Bool):Prop:=∀j o,ops[j]? = some o→m j=true→∀e∈o.after,Region.binds .any e=true→m e.on=true
theorem Zg3 {ops:Array Oper} {m:Nat→Bool} (hs:Shut ops m):∀(k:Nat) (o:Oper) (b i:Nat),ops[k]? = some o→(befs ops.toList [])[k]? = some b→(∀e∈o.after,Region.binds .any e=true→m e.on=true)→b.testBit i=true→m i=true:=by
 intro k
 induction k using Nat.strongRecOn with
 | _ k ih =>
  intro o b i ho hb he hi
  obtain⟨e,h1,h2,h3⟩:=ZiM (l:=ops.toList) (by simpa using ho) hb hi
  have hme:=he e (by simpa using h1) h2
  rcases h3 with rfl|⟨m', h4,h5,h6⟩
  ·
   exact hme
  ·
   cases hoe:ops[e.on]? with
   | none =>
    have:e.on < ops.size:=Nat.lt_trans h4 (Array.getElem?_eq_some_iff.1 ho).1
    rw[Array.getElem?_eq_getElem this]at hoe;cases hoe
   | some o' => exact ih e.on h4 o' m' i hoe h5 (hs e.on o' hoe hme) h6
theorem ZgD {ops:Array Oper} {ss:List Stp} {m i j:Nat} {b:Oper} {t:Stp} (hb:ops[j]? = some b) (ht:ss[j]? = some t) (h:∀a ta,ops.toList[i]? = some a→(ss.map fun s=>(s.need,s.tch))[i]? = some ta→ZgU ops m a ta i b (t.need,t.tch)=true) (hm:m.testBit i=false):Frees ops ss i j:=by
 intro a b' s t' h1 h2 h3 h4
 rw[hb]at h2
 cases h2
 rw[ht]at h4
 cases h4
 have:=h a (s.need,s.tch) (by simpa using h1) (by simp[h3])
 unfold ZgU at this
 rw[hm,Bool.false_or,Bool.and_eq_true]at this
 exact this
theorem Zef {a b:Trc} (h:free2 a b=true):(∀T∈a.2,T ∉ b.1∧T ∉ b.2)∧∀T∈a.1,T ∉ b.2:=by
 unfold free2 at h
 rw[Bool.and_eq_true,List.all_eq_true,List.all_eq_true]at h
 refine⟨fun T hT => ?_,fun T hT => ?_⟩
 ·
  simpa using h.1 T hT
 ·
  simpa using h.2 T hT
theorem Zis (hm:P.follows .mixedOrders=true) (hJ:Stays J) (hJd:∀{ρ Z ob w},J ρ Z ob w→J ρ Z ob { w with drawn:=w.drawn+1 }) {id:Nat} {ops:Array Oper} {Q:Exit→Act→World→Prop} {σ σ' : St} {ss:List Stp} (hc:Chain P B n ops ops.toList σ ss σ')
  (hb:bern ops (ss.map fun s=>(s.need,s.tch))=true) (h:HldS P B n J σ a w) (hQ:∀a w,HldS P B n J σ' a w→Q .normal a w):(Code.region id ops true).wp P Q a w:=by
 obtain⟨c1,c2,c3,c4,c5,c6⟩:=ZhJ _ _ _ _ hc
 have c1:ss.length=ops.size:=by simpa using c1
 have hsome:∀k,k < ops.size→∃o s,ops[k]? = some o∧ss[k]? = some s:=fun k hk=>⟨_,_,Array.getElem?_eq_getElem hk,List.getElem?_eq_getElem (by omega)⟩
 have hbern:∀k o s,ops[k]? = some o→ss[k]? = some s→(∀e∈o.after,Region.binds .any e=true→e.on < k)∧∃m,(befs ops.toList [])[k]? = some m∧∀i,i < k→m.testBit i=false→Frees ops ss i k:=fun k o s ho hs=>by
  obtain⟨g1,m,g2,g3⟩:=Zgv _ _ _ 0 hb k o (s.need,s.tch) (by simpa using ho) (by simp[hs])
  rw[Nat.zero_add]at g1 g3
  refine⟨fun e he hbd => ?_,m,g2,fun i hi=>ZgD ho hs fun a ta h1 h2=>g3 i a ta hi h1 h2⟩
  rw[Array.all_eq_true_iff_forall_mem]at g1
  have:=g1 e he
  rw[hbd]at this
  simpa using this
 let I:(Nat→Bool)→Act→World→Prop:=fun m a w=>Hld P B n J (Chg.fold m 0 (ss.map Stp.fchg) (lookF σ.fr)) (Chg.fold m 0 (ss.map Stp.ochg) (look σ.ob)) (fun T => σ.nx≤T∧∀(j:Nat) s,ss[j]? = some s→m j=true→¬ (s.lo≤T∧T < s.hi)) a w
 have hend:∀m a w,(∀j,j < ops.size→m j=true)→I m a w→Q .normal a w:=fun m a w hall hI=>by
  refine hQ a w ?_
  show Hld P B n J (lookF σ'.fr) (look σ'.ob) _ a w
  rw[c3,c4,←Chg.fold_all (m:=m) (ss.map Stp.ochg) 0 _ (fun j hj=>by rw[Nat.zero_add];exact hall j (by simpa [c1] using hj)),←Chg.fold_all (m:=m) (ss.map Stp.fchg) 0 _ (fun j hj=>by rw[Nat.zero_add];exact hall j (by simpa [c1] using hj))]
  refine Hld.less hI fun T (hT : σ'.nx≤T)=>⟨Nat.le_trans c2 hT,fun j s hs _ hr => ?_⟩
  have:=(c5 j s hs).2
  omega
 have hstep:∀(m:Nat→Bool) (k:Nat) (o:Oper) (a:Act) (w:World),Shut ops m→ops[k]? = some o→m k=false→(∀e∈o.after,Region.binds .any e=true→m e.on=true)→I m a w→∀(K:Act→World→Prop),(∀a w,I (Chg.also m k) a w→K a w)→wpOp P ops Q k K a w:=by
  intro m k o a w hsh ho hmk hed hI K hK
  have hk:=(Array.getElem?_eq_some_iff.1 ho).1
  obtain⟨_,s,_,hs⟩:=hsome k hk
  obtain⟨b1,mk,b2,b3⟩:=hbern k o s ho hs
  obtain⟨σk,d1,d2,d3,d4⟩:=c6 k o s (by simpa using ho) hs
  have before:∀j,j < k→m j=false→Frees ops ss j k:=fun j hj hmj=>b3 j hj (by
   cases ht:mk.testBit j with
   | false=>rfl
   | true=>rw[Zg3 hsh k o mk j ho b2 hed ht]at hmj;cases hmj)
  have behind:∀j,k < j→m j=true→j < ops.size→Frees ops ss k j:=fun j hj hmj hjs=>by
   obtain⟨o', s', ho', hs'⟩:=hsome j hjs
   obtain⟨_,mj,e2,e3⟩:=hbern j o' s' ho' hs'
   refine e3 k hj ?_
   cases ht:mj.testBit k with
   | false=>rfl
   | true=>rw[Zg3 hsh j o' mj k ho' e2 (hsh j o' ho' hmj) ht]at hmk;cases hmk
  have get:∀{β : Type} (f:Stp→Chg β) {j:Nat} {c:Chg β},(ss.map f)[j]? = some c→∃o' s', ops[j]? = some o' ∧ ss[j]? = some s' ∧ c=f s' := fun {β} f {j c} hc=>by
   rw[List.getElem?_map]at hc
   cases hj:ss[j]? with
   | none=>rw[hj]at hc;cases hc
   | some s' =>
    rw[hj]at hc
    cases hc
    have:j < ops.size:=c1 ▸ (List.getElem?_eq_some_iff.1 hj).1
    exact⟨_,s', Array.getElem?_eq_getElem this,rfl,rfl⟩
  refine ZjU ho (Zh7 hJ d1 hI (fun T hT => ?_) (fun t ht => ?_) (fun T h1 h2=>⟨Nat.le_trans (c5 k s hs).1 h1,fun j s' hs' hmj hr => ?_⟩) fun a' w' h' => hK a' w' ?_)
  ·
   show Chg.fold m 0 (ss.map Stp.ochg) (look σ.ob) T=look σk.ob T
   rw[d2]
   refine Chg.fold_look (fun j c hj hc hmj ht => ?_) fun j c hj hc hmj ht => ?_
   ·
    obtain⟨o', s', ho', hs', rfl⟩:=get _ hc
    have hf:=Zef (before j hj hmj o' o s' s ho' ho hs' hs).2
    have ht:T∈s'.tch:=ht
    exact(List.mem_append.1 hT).elim (hf.1 T ht).1 (hf.1 T ht).2
   ·
    obtain⟨o', s', ho', hs', rfl⟩:=get _ hc
    have hne:k≠j:=fun e=>by rw[e,hmj]at hmk;cases hmk
    have hf:=Zef (behind j (by omega) hmj (Array.getElem?_eq_some_iff.1 ho').1 o o' s s' ho ho' hs hs').2
    have ht:T∈s'.tch:=ht
    exact(List.mem_append.1 hT).elim (fun h=>hf.2 T h ht) fun h=>(hf.1 T h).2 ht
  ·
   show Chg.fold m 0 (ss.map Stp.fchg) (lookF σ.fr) t=lookF σk.fr t
   rw[d3]
   refine Chg.fold_look (fun j c hj hc hmj htc => ?_) fun j c hj hc hmj htc => ?_
   ·
    obtain⟨o', s', ho', hs', rfl⟩:=get _ hc
    have hf:=Oper.apart_spec (before j hj hmj o' o s' s ho' ho hs' hs).1
    have htc:s'.dst=some t:=htc
    obtain⟨σj,e1,_⟩:=c6 j o' s' (by simpa using ho') hs'
    exact hf.1 t (e1.dst ▸ htc) ht
   ·
    obtain⟨o', s', ho', hs', rfl⟩:=get _ hc
    have hne:k≠j:=fun e=>by rw[e,hmj]at hmk;cases hmk
    have hf:=Oper.apart_spec (behind j (by omega) hmj (Array.getElem?_eq_some_iff.1 ho').1 o o' s s' ho ho' hs hs').1
    have htc:s'.dst=some t:=htc
    obtain⟨σj,e1,_⟩:=c6 j o' s' (by simpa using ho') hs'
    exact hf.2.2 t (e1.dst ▸ htc) ht
  ·
   have hjs:j < ops.size:=c1 ▸ (List.getElem?_eq_some_iff.1 hs').1
   obtain⟨o', _,ho', _⟩:=hsome j hjs
   obtain⟨_,_,_,_,e4⟩:=c6 j o' s' (by simpa using ho') hs'
   rcases Nat.lt_trichotomy j k with hjk|rfl|hjk
   ·
    have:=d4 j s' hjk hs';omega
   ·
    rw[hmj]at hmk;cases hmk
   ·
    have:=e4 k s hjk hs;omega
  ·
   have e1:Chg.fold (Chg.also m k) 0 (ss.map Stp.ochg) (look σ.ob)=s.ochg.ap (Chg.fold m 0 (ss.map Stp.ochg) (look σ.ob)):=Chg.fold_also (by simp[hs]) fun j c hj hc hmj T hT ht=>by
    obtain⟨o', s', ho', hs', rfl⟩:=get _ hc
    exact((Zef (behind j hj hmj (Array.getElem?_eq_some_iff.1 ho').1 o o' s s' ho ho' hs hs').2).1 T hT).2 ht
   have e2:Chg.fold (Chg.also m k) 0 (ss.map Stp.fchg) (lookF σ.fr)=s.fchg.ap (Chg.fold m 0 (ss.map Stp.fchg) (lookF σ.fr)):=Chg.fold_also (by simp[hs]) fun j c hj hc hmj T hT ht=>by
    obtain⟨o', s', ho', hs', rfl⟩:=get _ hc
    have hf:=Oper.apart_spec (behind j hj hmj (Array.getElem?_eq_some_iff.1 ho').1 o o' s s' ho ho' hs hs').1
    have ht:s'.dst=some T:=ht
    have hT:s.dst=some T:=hT
    obtain⟨σj,f1,_⟩:=c6 j o' s' (by simpa using ho') hs'
    exact hf.2.1 T (d1.dst ▸ hT) (f1.dst ▸ ht)
   show Hld P B n J _ _ _ a' w'
   rw[e1,e2]
   refine h'.less fun T hT=>⟨⟨hT.1,fun j s' hs' hmj=>hT.2 j s' hs' ?_⟩,hT.2 k s hs (if_pos rfl)⟩
   unfold Chg.also
   split
   ·
    rfl
   ·
    exact hmj
 have main:∀(fuel:Nat) (listed:Array Bool) (a:Act) (w:World),listed.size=ops.size→Shut ops (msk listed)→cnt (msk listed) ops.size≤fuel→I (msk listed) a w→wpAny P .any ops Q fuel listed a w:=by
  intro fuel
  induction fuel with
  | zero =>
   intro listed a w hsz hsh hcn hI
   have hall:=ZhL (Nat.le_zero.1 hcn)
   refine⟨List.eq_nil_iff_forall_not_mem.2 fun i hi => ?_,hend _ a w hall hI⟩
   obtain⟨o,h1,h2,_⟩:=Zfc.1 hi
   have hi' := (Array.getElem?_eq_some_iff.1 h1).1
   have:=hall i hi'
   unfold msk at this
   simp[Array.getD_eq_getD_getElem?,hsz ▸ hi']at this h2
   rw[this]at h2;cases h2
  | succ fuel ih =>
   intro listed a w hsz hsh hcn hI
   refine⟨fun hnil=>hend _ a w (fun j => ?_) hI,fun i hi => ?_⟩
   ·
    induction j using Nat.strongRecOn with
    | _ j ihj =>
     intro hj
     cases hmj:msk listed j with
     | true=>rfl
     | false =>
      exfalso
      obtain⟨o,s,ho,hs⟩:=hsome j hj
      have:j∈Region.ready .any ops listed:=Zfc.2 ⟨o,ho,by
       unfold msk at hmj
       simpa [Array.getD_eq_getD_getElem?,hsz ▸ hj] using hmj,fun e he hb=>by
       have hlt:=(hbern j o s ho hs).1 e he hb
       exact ihj e.on hlt (Nat.lt_trans hlt hj)⟩
      rw[hnil]at this
      cases this
   ·
    obtain⟨o,h1,h2,h3⟩:=Zfc.1 hi
    have hi' := (Array.getElem?_eq_some_iff.1 h1).1
    have hmi:msk listed i=false:=by
     unfold msk
     simpa [Array.getD_eq_getD_getElem?,hsz ▸ hi'] using h2
    have hset:=Zk4 (listed:=listed) (i:=i) (hsz ▸ hi')
    refine hstep (msk listed) i o a w hsh h1 hmi h3 hI _ fun a' w' hI' => ih _ a' w' (by simpa using hsz) ?_ ?_ (hset ▸ hI')
    ·
     rw[hset]
     intro j o' ho' hmj e he hb
     unfold Chg.also at hmj ⊢
     split
     ·
      rfl
     ·
      split at hmj
      ·
       rename_i hji
       subst hji
       rw[h1]at ho'
       cases ho'
       exact h3 e he hb
      ·
       exact hsh j o' ho' hmj e he hb
    ·
     rw[hset]
     have:=ZhK hmi hi'
     omega
 have hno:∀j,msk (Array.replicate ops.size false) j=false:=fun j=>by
  unfold msk
  simp only[Array.getD_eq_getD_getElem?,Array.getElem?_replicate]
  split <;> rfl
 refine wp_region_any hm (main ops.size _ a _ (by simp) (fun j o ho hmj=>by rw[hno j]at hmj;cases hmj) (ZkA _) ?_)
 show Hld P B n J _ _ _ a _
 rw[Chg.fold_none _ _ _ fun j _=>hno j,Chg.fold_none _ _ _ fun j _=>hno j]
 obtain⟨ρ,Z,L,h1,h2,h3,h4,h5,h6,h7⟩:=h
 have ht:Trn ρ Z (look σ.ob) w ρ Z (look σ.ob) { w with drawn:=w.drawn+1 }:=⟨rfl,rfl,rfl,Nat.le_refl _,fun _ _ _=>rfl,fun _ h => .inl h,fun _ h => .inl h,fun _ h=>h,fun _ z h=>⟨z,h,rfl⟩⟩
 have hf:=ht.fut h2
 refine⟨ρ,Z,L,h1,?_,hJd h3,fun t av hav=>(h4 t av hav).fut hf,h5,h6,fun T hT=>h7 T hT.1⟩
 exact ZgI h2 (fun _=>False) hf (fun _ _ => .inl rfl) (fun _ _=>rfl) (fun T z _ h8 h9=>⟨fun _ _=>rfl,fun k hk=>(h2.zsep k ⟨T,z,h8,h9,hk⟩).1⟩) (fun _ _ h=>h.elim) (fun _ _ _ h=>h.elim) (Nat.le_refl _) h2.zlt
end
end Go.Proofs.YtoljodiflhbohaaGreatDoor.D
namespace Go.Proofs.YtoljodiflhbohaaGreatDoor.D
open Go Go.RowKit
structure Bas (pin:Nat) (ρ : Rz) (Z:Nat→Prop) (ob:Obs) (w:World) (ρ' : Rz) (Z' : Nat→Prop) (ob' : Obs) (w' : World):Prop where
 os:w'.os=w.os
 tape:w'.tape=w.tape
 output:w'.output=w.output
 size:w.heap.size≤w'.heap.size
 old:∀k,k < w.heap.size→¬ Own ρ ob k→w'.heap[k]? = w.heap[k]?
 own:∀k,Own ρ' ob' k→Own ρ ob k∨w.heap.size≤k
 zn:∀k,Z' k→Z k∨Own ρ ob k∨w.heap.size≤k
 zm:∀k,Z k→Z' k
 hdr:∀T z,T < pin → ρ T=some z→∃z', ρ' T=some z' ∧ z'.hdr=z.hdr
section
variable {pin:Nat} {ρ ρ' ρ'' : Rz} {Z Z' Z'' : Nat→Prop} {ob ob' ob'' : Obs} {w w' w'' : World}
theorem Bas.refl:Bas pin ρ Z ob w ρ Z ob w:=⟨rfl,rfl,rfl,Nat.le_refl _,fun _ _ _=>rfl,fun _ h => .inl h,fun _ h => .inl h,fun _ h=>h,fun _ z _ h=>⟨z,h,rfl⟩⟩
theorem Bas.trn (h:Bas pin ρ Z ob w ρ' Z' ob' w') (h' : Trn ρ' Z' ob' w' ρ'' Z'' ob'' w''):Bas pin ρ Z ob w ρ'' Z'' ob'' w'' where
 os:=h'.os.trans h.os
 tape:=h'.tape.trans h.tape
 output:=h'.output.trans h.output
 size:=Nat.le_trans h.size h'.size
 old:=fun k hk hn=>(h'.old k (Nat.lt_of_lt_of_le hk h.size) fun ho=>(h.own k ho).elim hn fun h=>by omega).trans (h.old k hk hn)
 own:=fun k hk=>(h'.own k hk).elim (h.own k) fun h1 => .inr (Nat.le_trans h.size h1)
 zn:=fun k hk=>(h'.zn k hk).elim (h.zn k) fun h1=>h1.elim (fun h2 => .inr (h.own k h2)) fun h2 => .inr (.inr (Nat.le_trans h.size h2))
 zm:=fun k hk=>h'.zm k (h.zm k hk)
 hdr:=fun T z hT hz=>by
  obtain⟨z', h1,h2⟩:=h.hdr T z hT hz
  obtain⟨z'', h3,h4⟩:=h'.hdr T z' h1
  exact⟨z'', h3,h4.trans h2⟩
theorem Bas.ren (h:Bas pin ρ Z ob w ρ' Z' ob' w') (h1:∀T,T < pin → ρ'' T = ρ' T) (h2:∀k,Own ρ'' ob'' k→Own ρ' ob' k):Bas pin ρ Z ob w ρ'' Z' ob'' w' where
 os:=h.os
 tape:=h.tape
 output:=h.output
 size:=h.size
 old:=h.old
 own:=fun k hk=>h.own k (h2 k hk)
 zn:=h.zn
 zm:=h.zm
 hdr:=fun T z hT hz=>by
  obtain⟨z', h3,h4⟩:=h.hdr T z hT hz
  exact⟨z', (h1 T hT).trans h3,h4⟩
end
theorem ZcV (ob:List (Nat×Ob)):∀(n:Nat) (l seen:List Nat),∃t,reach ob n l seen=seen++t
 | 0,_,seen=>⟨[],by simp[reach]⟩
 | n+1,[],seen=>⟨[],by simp[reach]⟩
 | n+1,T :: r,seen=>by
  unfold reach
  cases seen.contains T with
  | true=>exact ZcV ob n r seen
  | false =>
   simp only[cond_false]
   split
   ·
    obtain⟨t,ht⟩:=ZcV ob n (r++Zen _) (seen++[T])
    exact⟨[T]++t,by rw[ht];simp⟩
   ·
    obtain⟨t,ht⟩:=ZcV ob n r (seen++[T])
    exact⟨[T]++t,by rw[ht];simp⟩
   ·
    obtain⟨t,ht⟩:=ZcV ob n (r++[_]) (seen++[T])
    exact⟨[T]++t,by rw[ht];simp⟩
   ·
    exact ZcV ob n r seen
theorem Zcq (ob:List (Nat×Ob)):∀(n:Nat) (l seen:List Nat),seen.Nodup→(reach ob n l seen).Nodup
 | 0,_,seen,h=>by simpa [reach] using h
 | n+1,[],seen,h=>by simpa [reach] using h
 | n+1,T :: r,seen,h=>by
  unfold reach
  cases hc:seen.contains T with
  | true=>exact Zcq ob n r seen h
  | false =>
   have h' : (seen++[T]).Nodup:=by
    rw[List.nodup_append]
    refine⟨h,by simp,fun a ha b hb => ?_⟩
    rw[List.mem_singleton.1 hb]
    intro e
    subst e
    simp at hc
    exact hc ha
   simp only[cond_false]
   split
   ·
    exact Zcq ob n _ _ h'
   ·
    exact Zcq ob n _ _ h'
   ·
    exact Zcq ob n _ _ h'
   ·
    exact Zcq ob n _ _ h
theorem ZfI {T:Nat}:∀{s:List Nat} {i k:Nat},posOf T s i=some k→∃j,k=i+j∧s[j]? = some T
 | [],_,_,h=>by cases h
 | U :: r,i,k,h=>by
  unfold posOf at h
  cases hb:Nat.beq T U with
  | true =>
   rw[hb]at h
   cases h
   obtain rfl:=Nat.eq_of_beq_eq_true hb
   exact⟨0,rfl,rfl⟩
  | false =>
   rw[hb]at h
   obtain⟨j,h1,h2⟩:=ZfI (s:=r) h
   exact⟨j+1,by omega,by simpa using h2⟩
section
variable {P:Program} {B Z:Nat→Prop} {ρ : Rz} {w:World} {s:List Nat}
def renR (s:List Nat) (ρ : Rz):Rz:=fun i=>(s[i]?).bind ρ
theorem Zc6 {T i:Nat} (h:posOf T s 0=some i):renR s ρ i = ρ T:=by
 obtain⟨j,h1,h2⟩:=ZfI h
 rw[Nat.zero_add]at h1
 subst h1
 unfold renR
 rw[h2];rfl
theorem CapsR.ren:∀{caps c:List (Nat×Nat)} {vs:List Value},Zgg s caps=some c→CapsR ρ caps vs→CapsR (renR s ρ) c vs
 | [],c,vs,h,hc=>by cases h;exact hc
 | (T,o) :: r,c,vs,h,⟨v,vs', h1,⟨z,g,h2,h3,h4⟩,h5⟩=>by
  unfold Zgg at h
  split at h
  ·
   rename_i i l hi hl
   cases h
   exact⟨v,vs', h1,⟨z,g,(Zc6 hi).trans h2,h3,h4⟩,CapsR.ren hl h5⟩
  ·
   cases h
theorem LR.ren {v:Value}:∀{l:Lf},LR P B ρ Z w l v→LR P B (renR s ρ) Z w (renLf s l) v
 | .int _ _,h=>h
 | .cnd _ _ _,h=>h
 | .str _,h=>h
 | .raw _,h=>h
 | .sl _ _,h=>h
 | .nil,h=>h
 | .own T,h=>by
  unfold renLf
  simp only
  split
  ·
   rename_i i hi
   obtain⟨z,h1,h2⟩:=h
   exact⟨z,(Zc6 hi).trans h1,h2⟩
  ·
   exact h.one rfl
 | .sub T j,h=>by
  unfold renLf
  simp only
  split
  ·
   rename_i i hi
   obtain⟨z,g,n,c,h1,h2⟩:=h
   exact⟨z,g,n,c,(Zc6 hi).trans h1,h2⟩
  ·
   exact LR.one (P:=P) (B:=B) (ρ := ρ) (Z:=Z) (w:=w) (l := .sub T j) h rfl
 | .box T o,h=>by
  unfold renLf
  simp only
  split
  ·
   rename_i i hi
   obtain⟨z,g,h1,h2⟩:=h
   exact⟨z,g,(Zc6 hi).trans h1,h2⟩
  ·
   exact LR.one (P:=P) (B:=B) (ρ := ρ) (Z:=Z) (w:=w) (l := .box T o) h rfl
 | .elt T i z o,h=>by
  unfold renLf
  simp only
  split
  ·
   rename_i j hj
   obtain⟨z,g,n,c,h1,h2⟩:=h
   exact⟨z,g,n,c,(Zc6 hj).trans h1,h2⟩
  ·
   exact h.one rfl
 | .vpt _ _ _,h=>h
 | .fn _ _ _,h=>h
 | .clo g caps,h=>by
  unfold renLf
  simp only
  split
  ·
   rename_i c hc
   obtain⟨vs,h1,h2⟩:=h
   exact⟨vs,h1,h2.ren hc⟩
  ·
   exact h.one rfl
 | .undef,h=>h
 | .top,h=>h
 | .emp _,h=>h
 | .pre T j,h=>by
  unfold renLf
  simp only
  split
  ·
   rename_i i hi
   obtain⟨z,g,n,c,h1,h2⟩:=h
   exact⟨z,g,n,c,(Zc6 hi).trans h1,h2⟩
  ·
   exact LR.one (P:=P) (B:=B) (ρ := ρ) (Z:=Z) (w:=w) (l := .pre T j) h rfl
theorem LRs.ren:∀{ls:List Lf} {vs:List Value},LRs P B ρ Z w ls vs→LRs P B (renR s ρ) Z w (Zfl s ls) vs
 | [],_,h=>h
 | l :: r,_,⟨v,vs', h1,h2,h3⟩=>⟨v,vs', h1,h2.ren,LRs.ren h3⟩
theorem TupR.ren:∀{ps:List (Bool×List Lf)} {vs:List Value},TupR P B ρ Z w ps vs→TupR P B (renR s ρ) Z w (ZjE s ps) vs
 | [],_,h=>h
 | (b,ls) :: r,_,⟨v,vs', cs,h1,h2,h3,h4⟩=>⟨v,vs', cs,h1,h2.ren,h3,TupR.ren h4⟩
theorem AR.ren {v:Value}:∀{av:AV},AR P B ρ Z w av v→AR P B (renR s ρ) Z w (renAV s av) v
 | .lf _,h=>LR.ren h
 | .agg _,⟨vs,h1,h2⟩=>⟨vs,h1,h2.ren⟩
 | .tup _,⟨vs,h1,h2⟩=>⟨vs,h1,h2.ren⟩
theorem Zkl:∀{l:Lf},l.ok=true→(renLf s l).ok=true
 | .int _ _,h=>h
 | .cnd _ _ _,h=>h
 | .str _,h=>h
 | .raw _,h=>h
 | .sl _ _,h=>h
 | .nil,h=>h
 | .own T,h=>by unfold renLf;simp only;split <;> rfl
 | .sub T _,h=>by unfold renLf;simp only;split <;> rfl
 | .pre T _,h=>by unfold renLf;simp only;split <;> rfl
 | .box T _,h=>by unfold renLf;simp only;split <;> rfl
 | .elt T _ _ _,h=>by unfold renLf;simp only;split <;> rfl
 | .vpt _ _ _,h=>h
 | .fn _ _ _,h=>h
 | .clo _ _,h=>by unfold renLf;simp only;split <;> rfl
 | .undef,h=>h
 | .top,h=>h
 | .emp _,h=>h
theorem ZgY:∀{ls:List Lf},lfsOk ls=true→lfsOk (Zfl s ls)=true
 | [],h=>h
 | l :: r,h=>by
  simp only[Zfl,lfsOk,Bool.and_eq_true]at h ⊢
  exact⟨Zkl h.1,ZgY h.2⟩
theorem OR.ren {o o' : Ob} {z:Rzv} (h:OR P B ρ Z w o z) (he:renOb s o=some o'):OR P B (renR s ρ) Z w o' z:=by
 cases o with
 | box t ro cells =>
  cases he
  obtain⟨g,vs,h1,h2,h3,h4,h5⟩:=h
  exact⟨g,vs,h1,h2,h3.ren,ZgY h4,h5⟩
 | row e m t xs=>cases he;exact h
 | hole e t xs j n =>
  unfold renOb at he
  simp only at he
  split at he
  ·
   rename_i i hi
   cases he
   obtain⟨zn,h1,h2⟩:=h
   exact⟨zn,(Zc6 hi).trans h1,h2⟩
  ·
   cases he
theorem ZhY (t:Nat):∀fr:List (Nat×AV),lk t (renFr s fr)=(lk t fr).map (renAV s)
 | []=>rfl
 | (n,v) :: r=>by
  by_cases h:t=n
  ·
   subst h;simp[renFr,lk]
  ·
   simp[renFr,lk,ZbO h,ZhY t r]
theorem Zhi (t:Nat) (fr:List (Nat×AV)):∀(live:List Nat) (v:AV),lk t (keep fr live)=some v→lk t fr=some v
 | [],v,h=>by cases h
 | n :: r,v,h=>by
  unfold keep at h
  split at h
  ·
   rename_i v' hv
   by_cases hn:t=n
   ·
    subst hn
    simp[lk]at h
    rw[hv,h]
   ·
    simp[lk,ZbO hn]at h
    exact Zhi t fr r v h
  ·
   exact Zhi t fr r v h
theorem Zd6 (ob:List (Nat×Ob)):∀(l:List Nat) (i k:Nat) (o:Ob),lk k (ZcP s ob l i)=some o→∃j T o', k=i+j∧l[j]? = some T∧lk T ob=some o' ∧ renOb s o' = some o
 | [],_,_,_,h=>by cases h
 | T :: r,i,k,o,h=>by
  unfold ZcP at h
  have next:lk k (ZcP s ob r (i+1))=some o→∃j T' o', k=i+j∧(T :: r)[j]? = some T' ∧ lk T' ob=some o' ∧ renOb s o' = some o:=fun h=>by
   obtain⟨j,T', o', h1,h2,h3⟩:=Zd6 ob r (i+1) k o h
   exact⟨j+1,T', o', by omega,by simpa using h2,h3⟩
  split at h
  ·
   rename_i o' ho
   by_cases hk:k=i
   ·
    subst hk
    simp[lk]at h
    cases hT:lk T ob with
    | none=>rw[hT]at ho;cases ho
    | some o2 =>
     rw[hT]at ho
     exact⟨0,T,o2,rfl,rfl,hT,ho.trans (by rw[h])⟩
   ·
    simp[lk,ZbO hk]at h
    exact next h
  ·
   exact next h
theorem ZjG {ob:List (Nat×Ob)} {k:Nat} (h:Own (renR s ρ) (look (ZcP s ob s 0)) k):∃(i T:Nat) (z:Rzv),s[i]? = some T∧(lk T ob).isSome=true ∧ ρ T=some z∧z.F k:=by
 obtain⟨i,z,h1,h2,h3⟩:=h
 have h1:(lk i (ZcP s ob s 0)).isSome=true:=h1
 cases hl:lk i (ZcP s ob s 0)with
 | none=>rw[hl]at h1;cases h1
 | some o =>
  obtain⟨j,T,o', e,g2,g3,_⟩:=Zd6 ob s 0 i o hl
  have e:i=j:=by omega
  subst e
  unfold renR at h2
  rw[g2]at h2
  exact⟨i,T,z,g2,by rw[g3];rfl,h2,h3⟩
theorem Zk1 {ob:List (Nat×Ob)} (hn:s.Nodup) (hm:Mem P B ρ Z (look ob) w):Mem P B (renR s ρ) Z (look (ZcP s ob s 0)) w:=by
 have get:∀i z,(lk i (ZcP s ob s 0)).isSome=true→renR s ρ i=some z→∃T,s[i]? = some T∧(lk T ob).isSome=true ∧ ρ T=some z:=fun i z h1 h2=>by
  cases hl:lk i (ZcP s ob s 0)with
  | none=>rw[hl]at h1;cases h1
  | some o =>
   obtain⟨j,T,o', e,g2,g3,_⟩:=Zd6 ob s 0 i o hl
   have e:i=j:=by omega
   subst e
   unfold renR at h2
   rw[g2]at h2
   exact⟨T,g2,by rw[g3];rfl,h2⟩
 have own:∀k,Own (renR s ρ) (look (ZcP s ob s 0)) k→Own ρ (look ob) k:=fun k hk=>by
  obtain⟨i,T,z,_,h2,h3,h4⟩:=ZjG hk
  exact⟨T,z,h2,h3,h4⟩
 refine⟨fun i o ho => ?_,fun i j z z' k hne h1 h2 h3 h4 h5 h6 => ?_,fun k hk=>hm.zsep k (own k hk),hm.zlt,fun k hk=>hm.bsep k (own k hk),hm.blt⟩
 ·
  obtain⟨j,T,o', e,g2,g3,g4⟩:=Zd6 ob s 0 i o ho
  have e:i=j:=by omega
  subst e
  obtain⟨z,k1,k2⟩:=hm.obj T o' g3
  exact⟨z,by unfold renR;rw[g2];exact k1,k2.ren g4⟩
 ·
  obtain⟨T,a1,a2,a3⟩:=get i z h1 h3
  obtain⟨U,b1,b2,b3⟩:=get j z' h2 h4
  refine hm.sep T U z z' k (fun e=>hne ?_) a2 b2 a3 b3 h5 h6
  subst e
  have hi:=(List.getElem?_eq_some_iff.1 a1).1
  have hj:=(List.getElem?_eq_some_iff.1 b1).1
  exact(List.getElem?_inj hi hn).1 (a1.trans b1.symm)
end
section
variable {P:Program} {B:Nat→Prop} {n pin:Nat} {ρ0:Rz} {Z0:Nat→Prop} {ob0:Obs} {w0:World} {a:Act} {w:World}
abbrev At (P:Program) (B:Nat→Prop) (n pin:Nat) (ρ0:Rz) (Z0:Nat→Prop) (ob0:Obs) (w0:World) (σ : St) (a:Act) (w:World):Prop:=HldS P B n (Bas pin ρ0 Z0 ob0 w0) σ a w
theorem Zhj {σ : St} (h:At P B n pin ρ0 Z0 ob0 w0 σ a w) (live:List Nat):At P B n pin ρ0 Z0 ob0 w0 (σ.norm pin live) a w:=by
 obtain⟨ρ,Z,L,h1,h2,h3,h4,h5,h6,h7⟩:=h
 have e:∃l,σ.norm pin live=⟨renFr (reach σ.ob 100000 l (List.range pin)) (keep σ.fr live),ZcP (reach σ.ob 100000 l (List.range pin)) σ.ob (reach σ.ob 100000 l (List.range pin)) 0,(reach σ.ob 100000 l (List.range pin)).length⟩:=⟨_,rfl⟩
 obtain⟨l,e⟩:=e
 rw[e]
 generalize hs:reach σ.ob 100000 l (List.range pin)=s
 have hn:s.Nodup:=hs ▸ Zcq σ.ob 100000 l _ List.nodup_range
 obtain⟨t,ht⟩:=ZcV σ.ob 100000 l (List.range pin)
 rw[hs]at ht
 refine⟨renR s ρ,Z,_,rfl,Zk1 hn h2,h3.ren (fun T hT => ?_) (fun k hk => ?_),fun t av hav => ?_,h5,h6,fun T (hT:s.length≤T) => ?_⟩
 ·
  unfold renR
  rw[ht,List.getElem?_append_left (by simpa using hT),List.getElem?_range hT]
  rfl
 ·
  obtain⟨i,T,z,_,g2,g3,g4⟩:=ZjG hk
  exact⟨T,z,g2,g3,g4⟩
 ·
  have hav:lk t (renFr s (keep σ.fr live))=some av:=hav
  rw[ZhY]at hav
  cases hk:lk t (keep σ.fr live)with
  | none=>rw[hk]at hav;cases hav
  | some v =>
   rw[hk]at hav
   cases hav
   exact(h4 t v (Zhi t σ.fr live v hk)).ren
 ·
  unfold renR
  rw[List.getElem?_eq_none hT];rfl
theorem Zcp (lv:List Nat):∀(l:List Nat) (ob:List (Nat×Ob)) (ρ : Rz) (Z:Nat→Prop),Mem P B ρ Z (look ob) w→∃ρ', Mem P B ρ' Z (look (Zc2 lv l ob)) w∧Trn ρ Z (look ob) w ρ' Z (look (Zc2 lv l ob)) w∧∀T,ρ T=none → ρ' T=none
 | [],ob,ρ,Z,hm=>⟨ρ,hm,Trn.refl _ _ _ _,fun _ h=>h⟩
 | T :: r, ob,ρ,Z,hm=>by
  unfold Zc2
  split
  ·
   rename_i e e' t xs j n ho
   split
   ·
    rename_i e2 t2 ys hn
    split
    ·
     rename_i hh _
     cases hc:Nat.beq e2 e' && !(Nat.beq n T) && !(nf e') && !(lv.contains n)with
     | false=>exact Zcp lv r ob ρ Z hm
     | true =>
      rw[Bool.and_eq_true,Bool.and_eq_true,Bool.and_eq_true,Bool.not_eq_true', Bool.not_eq_true']at hc
      obtain⟨⟨⟨he,hne⟩,hnf⟩,_⟩:=hc
      obtain rfl:=Nat.eq_of_beq_eq_true he
      obtain⟨hh⟩:=hh
      subst hh
      have hnT:n≠T:=fun e=>by subst e;simp at hne
      obtain⟨z,hz,zn,hzn,inner,h2,h3,h4,Fs,h5,h6,h7⟩:=hm.obj T _ ho
      obtain⟨zn', hzn', hrow⟩:=hm.obj n _ hn
      obtain rfl:zn' = zn:=Option.some.inj (hzn'.symm.trans hzn)
      have hTs:(lk T ob).isSome=true:=by rw[ho];rfl
      have hns:(lk n ob).isSome=true:=by rw[hn];rfl
      have hsep:∀k,z.F k→¬ zn'.F k:=fun k hk hk' => hm.sep T n z zn' k (Ne.symm hnT) hTs hns hz hzn hk hk'
      have hOf:∀k,z.F k∨zn'.F k→Of ρ [T,n] k:=fun k hk=>hk.elim (fun h=>⟨T,z,by simp,hz,h⟩) fun h=>⟨n,zn', by simp,hzn,h⟩
      have hal:Alive ob [T,n]:=fun U hU=>by
       rcases List.mem_cons.1 hU with rfl|hU
       ·
        exact hTs
       ·
        rw[List.mem_singleton.1 hU];exact hns
      obtain ⟨m1,m2⟩:=Zfb hm (n:=T) (o := .row e true (.sl e2 t2) (List.set (α := List t2.den) xs j ys)) (z:=⟨z.hdr,fun k=>z.F k∨zn'.F k⟩) (c:=[T,n]) (del:=[n]) (w' := w) hal
       (fun U hU=>(List.mem_cons.1 hU).imp id id) (fun h=>hnT (List.mem_singleton.1 h).symm) (fun z0 h=>by rw[hz]at h;cases h;rfl) rfl rfl rfl (Nat.le_refl _)
       (fun _ z0 h k hk=>by rw[hz]at h;cases h;exact hOf k (.inl hk)) (fun _ _ _=>rfl) (fun k hk=>⟨.inl (hOf k hk),(hm.zsep k ((hOf k hk).own hal)).2⟩) (by
       refine⟨inner,by rw[List.length_set];exact h2,fun k hk => .inl (h3 k hk),fun i=>if i=j then zn'.F else Fs i,fun i p hp => ?_,fun i k hk => ?_,fun a b k hab hk => ?_⟩
       ·
        by_cases hi:i=j
        ·
         subst hi
         have hlt:=(List.getElem?_eq_some_iff.1 hp).1
         rw[List.getElem?_set_self (by simpa using hlt)]at hp
         cases hp
         rw[h4]
         simp only[if_pos]
         exact⟨zn'.hdr,rfl,hrow,fun h=>by rw[hnf]at h;cases h⟩
        ·
         rw[List.getElem?_set_ne (Ne.symm hi)]at hp
         simp only[if_neg hi]
         exact h5 i p hi hp
       ·
        by_cases hi:i=j
        ·
         simp only[if_pos hi]at hk
         exact⟨.inr hk,fun e=>hsep k (h3 k e) hk⟩
        ·
         simp only[if_neg hi]at hk
         exact⟨.inl (h6 i k hi hk).1,(h6 i k hi hk).2⟩
       ·
        by_cases ha:a=j
        ·
         have hb:b≠j:=fun e=>hab (ha.trans e.symm)
         simp only[if_pos ha]at hk
         simp only[if_neg hb]
         exact fun h=>hsep k (h6 b k hb h).1 hk
        ·
         simp only[if_neg ha]at hk
         by_cases hb:b=j
         ·
          simp only[if_pos hb]
          exact hsep k (h6 a k ha hk).1
         ·
          simp only[if_neg hb]
          exact h7 a b k hab ha hb hk)
      obtain⟨ρ', g1,g2,g3⟩:=Zcp lv r _ _ Z m1
      refine⟨ρ', g1,m2.trans g2,fun U hU=>g3 U ?_⟩
      unfold upd
      rw[if_neg fun e=>by rw[e,hz]at hU;cases hU]
      exact hU
    ·
     exact Zcp lv r ob ρ Z hm
   ·
    exact Zcp lv r ob ρ Z hm
  ·
   exact Zcp lv r ob ρ Z hm
theorem ZfY {σ : St} (h:At P B n pin ρ0 Z0 ob0 w0 σ a w) (live:List Nat):At P B n pin ρ0 Z0 ob0 w0 (σ.close live) a w:=by
 obtain⟨ρ,Z,L,h1,h2,h3,h4,h5,h6,h7⟩:=h
 obtain⟨ρ', g1,g2,g3⟩:=Zcp (Zh8 (keep σ.fr live)) (keys σ.ob) σ.ob ρ Z h2
 exact⟨ρ', Z,_,rfl,g1,h3.trn g2,fun t av hav=>(h4 t av hav).fut (g2.fut h2),h5,h6,fun T hT=>g3 T (h7 T hT)⟩
theorem Zgl:∀(l:List Nat) (ob:List (Nat×Ob)) (ρ : Rz) (Z:Nat→Prop),Mem P B ρ Z (look ob) w→∃ρ' Z', Mem P B ρ' Z' (look (shKs l ob)) w∧Trn ρ Z (look ob) w ρ' Z' (look (shKs l ob)) w∧∀T,ρ T=none → ρ' T=none
 | [],ob,ρ,Z,hm=>⟨ρ,Z,hm,Trn.refl _ _ _ _,fun _ h=>h⟩
 | T :: r,ob,ρ,Z,hm=>by
  unfold shKs
  split
  ·
   rename_i et e' t xs ho
   obtain⟨ρ2,Z2,g1,g2,g3⟩:=ZkH (L' := pts [(T,.row et false (.sl e' t) xs)] ob) hm ho (fun U=>by
    rw[Zds U _ _ (by simp[keys,nodup])]
    by_cases hU:U=T
    ·
     subst hU;simp[lk]
    ·
     simp[lk,ZbO hU,hU])
   obtain⟨ρ3,Z3,k1,k2,k3⟩:=Zgl r _ ρ2 Z2 g1
   exact⟨ρ3,Z3,k1,g2.trans k2,fun U hU=>k3 U (g3 U hU)⟩
  ·
   exact Zgl r ob ρ Z hm
theorem sh_at {σ : St} (h:At P B n pin ρ0 Z0 ob0 w0 σ a w):At P B n pin ρ0 Z0 ob0 w0 σ.sh a w:=by
 obtain⟨ρ,Z,L,h1,h2,h3,h4,h5,h6,h7⟩:=h
 obtain⟨ρ', Z', g1,g2,g3⟩:=Zgl (keys σ.ob) σ.ob ρ Z h2
 exact⟨ρ', Z', _,rfl,g1,h3.trn g2,fun t av hav=>(h4 t av hav).fut (g2.fut h2),h5,h6,fun T hT=>g3 T (h7 T hT)⟩
theorem Zd1:∀(l:List Nat) (ob:List (Nat×Ob)) (ρ : Rz) (Z:Nat→Prop),Mem P B ρ Z (look ob) w→∃ρ' Z', Mem P B ρ' Z' (look (fzKs l ob)) w∧Trn ρ Z (look ob) w ρ' Z' (look (fzKs l ob)) w∧∀T,ρ T=none → ρ' T=none
 | [],ob,ρ,Z,hm=>⟨ρ,Z,hm,Trn.refl _ _ _ _,fun _ h=>h⟩
 | U :: r,ob,ρ,Z,hm=>by
  unfold fzKs
  split
  ·
   rename_i e f ls ho
   split
   ·
    rename_i ls' Ts hf
    cases hc:(lfsOk ls' && !Ts.contains U)with
    | false=>exact Zd1 r ob ρ Z hm
    | true =>
     rw[Bool.and_eq_true,Bool.not_eq_true']at hc
     have hUT:U ∉ Ts:=fun h=>by
      have:=hc.2
      rw[List.contains_iff_mem.2 h]at this
      cases this
     obtain⟨ρ2,Z2,g1,g2,g3⟩:=Zlx (L' := pts [(U,.box e f ls')] (rms Ts ob)) hm ho hf hc.1 hUT (fun T=>by
      rw[Zds T _ _ (by simp[keys,nodup]),Zb4]
      by_cases hT:T=U
      ·
       subst hT;simp[lk]
      ·
       simp[lk,ZbO hT,hT])
     obtain⟨ρ3,Z3,k1,k2,k3⟩:=Zd1 r _ ρ2 Z2 g1
     exact⟨ρ3,Z3,k1,g2.trans k2,fun T hT=>k3 T (g3 T hT)⟩
   ·
    exact Zd1 r ob ρ Z hm
  ·
   exact Zd1 r ob ρ Z hm
theorem fz_at {σ : St} (h:At P B n pin ρ0 Z0 ob0 w0 σ a w):At P B n pin ρ0 Z0 ob0 w0 σ.fz a w:=by
 obtain⟨ρ,Z,L,h1,h2,h3,h4,h5,h6,h7⟩:=h
 obtain⟨ρ', Z', g1,g2,g3⟩:=Zd1 (keys σ.ob) σ.ob ρ Z h2
 exact⟨ρ', Z', _,rfl,g1,h3.trn g2,fun t av hav=>(h4 t av hav).fut (g2.fut h2),h5,h6,fun T hT=>g3 T (h7 T hT)⟩
theorem Zjp {E:Env} (hp:E.pin=pin) {σ : St} (h:At P B n pin ρ0 Z0 ob0 w0 σ a w) (id:Option Nat):At P B n pin ρ0 Z0 ob0 w0 (nrm E id σ) a w:=by
 unfold nrm
 split
 ·
  split
  ·
   rw[hp]
   cases E.rows.contains (2000000+_)with
   | true=>exact fz_at (Zhj (ZfY h _) _)
   | false =>
    cases E.rows.contains (1000000+_)with
    | false=>exact Zhj (ZfY h _) _
    | true=>exact sh_at (Zhj (ZfY h _) _)
  ·
   exact h
 ·
  exact h
end
end Go.Proofs.YtoljodiflhbohaaGreatDoor.D
namespace Go.Proofs.YtoljodiflhbohaaGreatDoor.D
open Go Go.RowKit
def Ex.to:Ex→Exit
 | .normal => .normal
 | .exit id => .exit id
 | .ret => .ret
section
variable {P:Program} {B:Nat→Prop} {E:Env} {ρ0:Rz} {Z0:Nat→Prop} {ob0:Obs} {w0:World}
theorem ZiW {σ : St} {a:Act} {w:World} {n pin:Nat} (h:At P B n pin ρ0 Z0 ob0 w0 σ a w) {c:Operand} {m:Bool} {p:Prop} {d:Decidable p} (hc:ev σ.fr c=some (.lf (.cnd m p d))):a.eval c = .bool (bval m p d):=by
 obtain⟨ρ,Z,L,h1,h2,h3,h4,h5,h6,h7⟩:=h
 have:AR P B ρ Z w (.lf (.cnd m p d)) (a.eval c):=by
  cases c with
  | tmp t=>exact h4 t _ hc
  | const v=>exact Zfv hc
  | global g=>cases hc
  | func f=>cases hc
 exact this
theorem Zjf {c:Code} {Q:Exit→Act→World→Prop} {p:Ex×St} {f:St→Option (Ex×St)} {I:St→Act→World→Prop}
  (hbody:∀σ a w r,f σ = some r→I σ a w→c.wp P (fun e a' w' => match e with
   | .normal=>r.1 = .normal∧I r.2 a' w'
   | e=>r.1 ≠ .normal∧(∀(σ' : St),r=p→Q e a' w')) a w):∀(n:Nat) (σ : St) (a:Act) (w:World),iter f n σ = some p→I σ a w→(Code.loop c).wp P Q a w:=by
 intro n σ a w h hI
 refine wp_loop_ghost (fun n a w=>∃σ,I σ a w∧iter f n σ = some p) n ⟨σ,hI,h⟩ fun n a w ⟨σ,hI,h⟩ => ?_
 cases n with
 | zero=>cases h
 | succ n =>
  unfold iter at h
  cases hf:f σ with
  | none=>rw[hf]at h;cases h
  | some r =>
   rw[hf]at h
   refine wp_mono (hbody σ a w r hf hI) fun e a' w' hq => ?_
   obtain⟨x,s⟩:=r
   cases e with
   | normal =>
    obtain⟨h1,h2⟩:=hq
    have h1:x = .normal:=h1
    subst h1
    exact⟨n,Nat.lt_succ_self n,s,h2,h⟩
   | _ =>
    obtain⟨h1,h2⟩:=hq
    have h1:x ≠ .normal:=h1
    cases x with
    | normal=>exact absurd rfl h1
    | _=>exact h2 s (Option.some.inj h)
theorem Zie (hE:EnvOk P E) (hm:P.follows .mixedOrders=true):∀(c:Code) {β : Type} (K:Ex→St→Option β) (r : β) (σ : St) (a:Act) (w:World) (Q:Exit→Act→World→Prop),denC E c σ K=some r→At P B E.n E.pin ρ0 Z0 ob0 w0 σ a w →
  (∀ex σ' a' w', K ex σ' = some r→At P B E.n E.pin ρ0 Z0 ob0 w0 σ' a' w' → Q ex.to a' w')→c.wp P Q a w:=by
 intro c
 induction c with
 | skip =>
  intro β K r σ a w Q h hat hQ
  exact wp_skip (hQ .normal σ a w (by simpa only[denC] using h) hat)
 | region id ops draw =>
  intro β K r σ a w Q h hat hQ
  simp only[denC]at h
  obtain⟨ss,σ', h1,h2⟩:=Zdp (B:=B) (n:=E.n) hE rfl (all:=ops) _ _ _ _ (fun g b hg=>by cases hg) h
  have hn:=Zjp (E:=E) rfl hat (some id)
  have hJ:Stays (Bas E.pin ρ0 Z0 ob0 w0):=fun h t=>h.trn t
  cases draw with
  | false=>exact Zhy hJ h2 hn fun a' w' h' => hQ .normal σ' a' w' h1 h'
  | true =>
   simp only[cond_true,List.reverse_nil,List.nil_append]at h1
   cases hb:bern ops (ss.map fun s=>(s.need,s.tch))with
   | false=>rw[hb]at h1;cases h1
   | true =>
    rw[hb]at h1
    exact Zis hm hJ (fun {ρ Z ob w} h=>h.trn ⟨rfl,rfl,rfl,Nat.le_refl _,fun _ _ _=>rfl,fun _ h => .inl h,fun _ h => .inl h,fun _ h=>h,fun _ z h=>⟨z,h,rfl⟩⟩) h2 hb hn fun a' w' h' => hQ .normal σ' a' w' h1 h'
 | seq x y ihx ihy =>
  intro β K r σ a w Q h hat hQ
  simp only[denC]at h
  refine wp_seq (ihx _ r σ a w _ h hat fun ex σ' a' w' hk hat' => ?_)
  cases ex with
  | normal=>exact ihy K r σ' a' w' Q hk hat' hQ
  | exit i=>exact hQ (.exit i) σ' a' w' hk hat'
  | ret=>exact hQ .ret σ' a' w' hk hat'
 | cond c x y ihx ihy =>
  intro β K r σ a w Q h hat hQ
  simp only[denC]at h
  split at h
  ·
   rename_i m p d hc
   have hev:=ZiW hat hc
   refine wp_cond hev ?_
   by_cases hp:p
   ·
    rw[if_pos hp]at h
    have hv:bval m p d = !m:=by unfold bval;rw[decide_eq_true hp];cases m <;> rfl
    rw[hv]
    cases m with
    | true=>exact ihy K r σ a w Q h hat hQ
    | false=>exact ihx K r σ a w Q h hat hQ
   ·
    rw[if_neg hp]at h
    have hv:bval m p d=m:=by unfold bval;rw[decide_eq_false hp];cases m <;> rfl
    rw[hv]
    cases m with
    | true=>exact ihx K r σ a w Q h hat hQ
    | false=>exact ihy K r σ a w Q h hat hQ
  ·
   cases h
 | block id c ih =>
  intro β K r σ a w Q h hat hQ
  simp only[denC]at h
  refine wp_block (ih _ r σ a w _ h hat fun ex σ' a' w' hk hat' => ?_)
  cases ex with
  | normal=>exact hQ .normal σ' a' w' hk hat'
  | exit i =>
   show if i=id then Q .normal a' w' else Q (.exit i) a' w'
   unfold blkK at hk
   by_cases hi:i=id
   ·
    subst hi
    rw[if_pos rfl]
    simp at hk
    exact hQ .normal σ' a' w' hk hat'
   ·
    rw[if_neg hi]
    simp only[ZbO hi,cond_false]at hk
    exact hQ (.exit i) σ' a' w' hk hat'
  | ret=>exact hQ .ret σ' a' w' hk hat'
 | loop c ih =>
  intro β K r σ a w Q h hat hQ
  simp only[denC]at h
  cases hl:loopR (fun s=>denC E c s (backK E (rid c))) (nrm E (rid c) σ)with
  | none=>rw[hl]at h;cases h
  | some p =>
   rw[hl]at h
   have h:K p.1 p.2=some r:=h
   unfold loopR at hl
   split at hl
   ·
    refine Zjf (p:=p) (I:=fun σ a w=>At P B E.n E.pin ρ0 Z0 ob0 w0 σ a w) (fun σ a w r' hf hI => ?_) _ _ a w hl (Zjp rfl hat _)
    refine ih _ r' σ a w _ hf hI fun ex σ' a' w' hk hat' => ?_
    cases ex with
    | normal =>
     have hk:some (Ex.normal,nrm E (rid c) σ')=some r' := hk
     cases hk
     exact⟨rfl,Zjp rfl hat' _⟩
    | exit i =>
     have hk:some (Ex.exit i,σ')=some r' := hk
     cases hk
     exact⟨fun h=>(by cases h),fun _ hp=>by subst hp;exact hQ (.exit i) σ' a' w' h hat'⟩
    | ret =>
     have hk:some (Ex.ret,σ')=some r' := hk
     cases hk
     exact⟨fun h=>(by cases h),fun _ hp=>by subst hp;exact hQ .ret σ' a' w' h hat'⟩
   ·
    cases hl
 | exit id =>
  intro β K r σ a w Q h hat hQ
  exact wp_exit (hQ (.exit id) σ a w (by simpa only[denC] using h) hat)
 | ret =>
  intro β K r σ a w Q h hat hQ
  exact wp_ret (hQ .ret σ a w (by simpa only[denC] using h) hat)
 | _=>intro β K r σ a w Q h hat hQ;simp[denC]at h
end
end Go.Proofs.YtoljodiflhbohaaGreatDoor.D
namespace Go.Proofs.YtoljodiflhbohaaGreatDoor.D
open Go Go.RowKit
section
variable {P:Program} {B Z:Nat→Prop} {w:World}
theorem Zc1 {ρ : Rz}:∀(ss:List LS) (x:lsd ss) (nx:Nat) (vs:List Value),LRs P B ρ Z w (mkLfs ss x nx).1 vs→ZcA ρ ss vs (Zcn ss nx).1∧(Zcn ss nx).2=(mkLfs ss x nx).2.2
 | [],x,nx,vs,h=>⟨rfl,rfl⟩
 | .v t :: ss,x,nx,_,⟨v,vs', e,h1,h2⟩=>by
  obtain⟨k1,k2⟩:=Zc1 ss x.2 nx vs' h2
  exact⟨⟨v,vs', [],_,e,rfl,rfl,k1⟩,k2⟩
 | .fn asx r :: ss,x,nx,_,⟨v,vs', e,h1,h2⟩=>by
  obtain⟨k1,k2⟩:=Zc1 ss x.2 nx vs' h2
  exact⟨⟨v,vs', [],_,e,rfl,rfl,k1⟩,k2⟩
 | .own e m t :: ss,x,nx,_,⟨v,vs', e1,⟨z,h3,h4,_⟩,h2⟩=>by
  obtain⟨k1,k2⟩:=Zc1 ss x.2 (nx+1) vs' h2
  exact⟨⟨v,vs', [nx],_,e1,rfl,⟨nx,z,rfl,h3,h4.symm⟩,k1⟩,k2⟩
theorem Puts.ro {T:Nat} {t:TypeId} {os:List (Nat×Ob)} {zl:List (Nat×Rzv)} {ls:List Lf} {us:List Value} {g:Nat} {F F0:Nat→Prop} (h:Puts P B Z w os zl F) (hok:lfsOk ls=true) (hl:∀ρ' : Rz,(∀T z,lk T zl=some z → ρ' T=some z)→LRs P B ρ' Z w ls us) (hg:w.heap[g]? = some (.cells us.toArray t (0,0))) (hgB:B g) (hs:∀k,F k→F0 k) (hT:T ∉ keys zl) :
  Puts P B Z w ((T,.box t true ls) :: os) ((T,⟨.pointer (some ⟨g,0,none⟩),fun _=>False⟩) :: zl) F0:=by
 have cut:∀{U:Nat} {z:Rzv},lk U ((T,(⟨.pointer (some ⟨g,0,none⟩),fun _=>False⟩:Rzv)) :: zl)=some z→(U=T∧z=⟨.pointer (some ⟨g,0,none⟩),fun _=>False⟩)∨(U≠T∧lk U zl=some z):=by
  intro U z h
  by_cases hU:U=T
  ·
   subst hU
   simp[lk]at h
   exact .inl ⟨rfl,h.symm⟩
  ·
   simp[lk,ZbO hU]at h
   exact .inr ⟨hU,h⟩
 refine⟨by simp[keys,h.key],fun U z hz k hk => ?_,fun U U' z z' k hne hz hz' hk hk' => ?_,fun ρ' hρ U o z ho hz => ?_⟩
 ·
  rcases cut hz with ⟨_,rfl⟩|⟨_,hz⟩
  ·
   exact hk.elim
  ·
   exact hs k (h.sub U z hz k hk)
 ·
  rcases cut hz with ⟨e,rfl⟩|⟨e,hy⟩ <;> rcases cut hz' with ⟨e', rfl⟩|⟨e', hy'⟩
  ·
   exact hk
  ·
   exact hk
  ·
   exact hk'
  ·
   exact h.dis U U' z z' k hne hy hy' hk hk'
 ·
  have hp:∀U z,lk U zl=some z → ρ' U=some z:=fun U z hz=>hρ U z (by
   have hU:U≠T:=fun e=>hT (e ▸ ZbY hz)
   simp only[lk,ZbO hU,cond_false]
   exact hz)
  rcases cut hz with ⟨rfl,rfl⟩|⟨e,hz⟩
  ·
   simp[lk]at ho
   subst ho
   exact⟨g,us,rfl,hg,hl ρ' hp,hok,(fun h=>by cases h),fun _=>hgB⟩
  ·
   simp only[lk,ZbO e,cond_false]at ho
   exact h.ors ρ' hp U o z ho hz
def noOwn:List LS→Bool
 | []=>true
 | .own _ _ _ :: _=>false
 | .v _ :: r=>noOwn r
 | .fn _ _ :: r=>noOwn r
def roOk:List ASh→Bool
 | []=>true
 | .ptr true _ ss :: r=>noOwn ss && roOk r
 | .one _ :: r=>roOk r
 | .agg _ :: r=>roOk r
 | .eat _ _ _ :: r=>roOk r
 | .non :: r=>roOk r
 | .ptr false _ _ :: r=>roOk r
theorem Zej:∀(ss:List LS) (x:lsd ss) (nx:Nat),noOwn ss=true→(mkLfs ss x nx).2=([],nx)∧(Zcn ss nx).2=nx
 | [],_,_,_=>⟨rfl,rfl⟩
 | .v t :: ss,x,nx,h=>Zej ss x.2 nx h
 | .fn asx r :: ss,x,nx,h=>Zej ss x.2 nx h
 | .own _ _ _ :: _,_,_,h=>by cases h
def Pars (P:Program) (B:Nat→Prop) (ρ : Rz) (Z:Nat→Prop) (w:World) (fr:List (Nat×AV)) (t:Nat) (vs:List Value):Prop:=∀u av,lk u fr=some av→∃i v,u=t+i∧vs[i]? = some v∧AR P B ρ Z w av v
theorem Pars.cons {ρ : Rz} {fr:List (Nat×AV)} {t:Nat} {v:Value} {vs:List Value} {av:AV} (h:AR P B ρ Z w av v) (h' : Pars P B ρ Z w fr (t+1) vs):Pars P B ρ Z w ((t,av) :: fr) t (v :: vs):=by
 intro u av' hu
 by_cases e:u=t
 ·
  subst e
  simp[lk]at hu
  subst hu
  exact⟨0,v,rfl,rfl,h⟩
 ·
  simp[lk,ZbO e]at hu
  obtain⟨i,v', h1,h2,h3⟩:=h' u av' hu
  exact⟨i+1,v', by omega,by simpa using h2,h3⟩
theorem Zcd:∀(ins:List ASh) (x:lsd (flats ins)) (vs:List Value) (F:Nat→Prop) (t nx:Nat),roOk ins=true→ASRs P B Z w ins x vs F →
  ∃zl,Puts P B Z w (mkIns ins x t nx).2.1 zl F∧Range zl nx (mkIns ins x t nx).2.2 (mkIns ins x t nx).2.1∧vs.length=ins.length∧∀ρ' : Rz,(∀T z,lk T zl=some z → ρ' T=some z)→Pars P B ρ' Z w (mkIns ins x t nx).1 t vs∧Zda ρ' ins vs (ZbV ins nx)
 | [],x,vs,F,t,nx,_,h=>by
  cases h
  exact⟨[],Puts.nil,Range.nil nx,rfl,fun ρ' _=>⟨(fun u av h=>by cases h),rfl⟩⟩
 | .one s :: r,x,_,F,t,nx,hro,⟨v,vs', F0,F1,e,h2,h3,h4,h5,h6⟩=>by
  subst e
  obtain⟨zl,k1,k2,k3,k4,k5⟩:=ZbF [s] (x.1,()) [v] F0 nx ⟨v,[],F0,fun _=>False,rfl,h2,rfl,fun _ h=>h,fun _ h=>h.elim,fun _ _ h=>h⟩
  obtain⟨zl', m1,m2,m3,m4⟩:=Zcd r x.2 vs' F1 (t+1) (mkLfs [s] (x.1,()) nx).2.2 hro h3
  refine⟨zl++zl', Puts.append k1 m1 (k2.dis m2) h4 h5 h6,k2.append m2,by simp[m3],fun ρ' hρ => ?_⟩
  have hl:=k5 ρ' fun T z h=>hρ T z (Ze8 h)
  obtain⟨b1,b2⟩:=Zc1 [s] (x.1,()) nx [v] hl
  obtain⟨c1,c2⟩:=m4 ρ' fun T z h=>hρ T z (Zc4 (fun hT=>k2.dis m2 T hT (ZbY h)) h)
  constructor
  ·
   refine Pars.cons ?_ c1
   have hlen:(mkLfs [s] (x.1,()) nx).1.length=1:=k4
   generalize (mkLfs [s] (x.1,()) nx).1=ls at hl hlen
   rcases ls with _|⟨l,_|⟨l', ls⟩⟩
   ·
    cases hlen
   ·
    obtain⟨v', e,hv⟩:=hl.one_inv
    cases e
    exact hv
   ·
    simp at hlen
  ·
   obtain⟨v0,vs0,t1,t2,e1,e2,e3,e4⟩:=b1
   cases e1
   cases e4
   refine⟨v,vs', (Zcn [s] nx).1,ZbV r (mkLfs [s] (x.1,()) nx).2.2,rfl,?_,?_,c2⟩
   ·
    show(Zcn [s] nx).1++ZbV r (Zcn [s] nx).2=_
    rw[b2]
   ·
    rw[e2,List.append_nil];exact e3
 | .non :: r,x,_,F,t,nx,hro,⟨v,vs', F0,F1,e,h2,h3,h4,h5,h6⟩=>by
  subst e
  obtain⟨zl', m1,m2,m3,m4⟩:=Zcd r x vs' F1 (t+1) nx hro h3
  refine⟨zl', ⟨m1.key,fun T z h k hk=>h5 k (m1.sub T z h k hk),m1.dis,m1.ors⟩,m2,by simp[m3],fun ρ' hρ => ?_⟩
  obtain⟨c1,c2⟩:=m4 ρ' hρ
  exact⟨Pars.cons (show AR P B ρ' Z w (.lf .nil) v from h2) c1,v,vs', [],ZbV r nx,rfl,rfl,rfl,c2⟩
 | .eat e' m' t' :: r,x,_,F,t,nx,hro,⟨v,vs', F0,F1,e,h2,h3,h4,h5,h6⟩=>by
  subst e
  obtain⟨zl,k1,k2,k3,k4,k5⟩:=ZbF [.own e' m' t'] (x.1,()) [v] F0 nx ⟨v,[],F0,fun _=>False,rfl,h2,rfl,fun _ h=>h,fun _ h=>h.elim,fun _ _ h=>h⟩
  obtain⟨zl', m1,m2,m3,m4⟩:=Zcd r x.2 vs' F1 (t+1) (mkLfs [.own e' m' t'] (x.1,()) nx).2.2 hro h3
  refine⟨zl++zl', Puts.append k1 m1 (k2.dis m2) h4 h5 h6,k2.append m2,by simp[m3],fun ρ' hρ => ?_⟩
  have hl:=k5 ρ' fun T z h=>hρ T z (Ze8 h)
  obtain⟨b1,b2⟩:=Zc1 [.own e' m' t'] (x.1,()) nx [v] hl
  obtain⟨c1,c2⟩:=m4 ρ' fun T z h=>hρ T z (Zc4 (fun hT=>k2.dis m2 T hT (ZbY h)) h)
  constructor
  ·
   refine Pars.cons ?_ c1
   obtain⟨v', vs0,e,hv,_⟩:=hl
   cases e
   exact(show AR P B ρ' Z w (.lf (.own nx)) v from hv)
  ·
   refine⟨v,vs', [],ZbV r (mkLfs [.own e' m' t'] (x.1,()) nx).2.2,rfl,?_,rfl,c2⟩
   show ZbV r (nx+1)=_
   rfl
 | .agg ss :: r,x,_,F,t,nx,hro,⟨v,vs', F0,F1,e,⟨us,e2,h2⟩,h3,h4,h5,h6⟩=>by
  subst e
  obtain⟨zl,k1,k2,k3,k4,k5⟩:=ZbF ss (Zak ss (flats r) x).1 us F0 nx h2
  obtain⟨zl', m1,m2,m3,m4⟩:=Zcd r (Zak ss (flats r) x).2 vs' F1 (t+1) (mkLfs ss (Zak ss (flats r) x).1 nx).2.2 hro h3
  refine⟨zl++zl', Puts.append k1 m1 (k2.dis m2) h4 h5 h6,k2.append m2,by simp[m3],fun ρ' hρ => ?_⟩
  have hl:=k5 ρ' fun T z h=>hρ T z (Ze8 h)
  obtain⟨b1,b2⟩:=Zc1 ss _ nx us hl
  obtain⟨c1,c2⟩:=m4 ρ' fun T z h=>hρ T z (Zc4 (fun hT=>k2.dis m2 T hT (ZbY h)) h)
  exact⟨Pars.cons (av := .agg _) ⟨us,e2,hl⟩ c1,v,vs', (Zcn ss nx).1,ZbV r (mkLfs ss (Zak ss (flats r) x).1 nx).2.2,rfl,by
   show(Zcn ss nx).1++ZbV r (Zcn ss nx).2=_
   rw[b2],⟨us,e2,b1⟩,c2⟩
 | .ptr true ty ss :: r,x,_,F,t,nx,hro,⟨v,vs', F0,F1,e,⟨g,us,F', e2,e3,h2,gB⟩,h3,h4,h5,h6⟩=>by
  subst e
  subst e2
  rw[roOk,Bool.and_eq_true]at hro
  obtain⟨n1,n2⟩:=Zej ss (Zak ss (flats r) x).1 (nx+1) hro.1
  obtain⟨zl,k1,k2,k3,k4,k5⟩:=ZbF ss (Zak ss (flats r) x).1 us F' (nx+1) h2
  obtain⟨zl', m1,m2,m3,m4⟩:=Zcd r (Zak ss (flats r) x).2 vs' F1 (t+1) (mkLfs ss (Zak ss (flats r) x).1 (nx+1)).2.2 hro.2 h3
  have hz:zl=[]:=by
   have:=k1.key
   rw[n1]at this
   cases zl with
   | nil=>rfl
   | cons a l=>cases this
  subst hz
  have hR:=Range.one nx ⟨.pointer (some ⟨g,0,none⟩),fun _=>False⟩ (.box ty true (mkLfs ss (Zak ss (flats r) x).1 (nx+1)).1)
  have hB:=Puts.ro (T:=nx) (t:=ty) (F0:=F0) (os:=(mkLfs ss (Zak ss (flats r) x).1 (nx+1)).2.1) (F:=fun _=>False) (by rw[n1];exact Puts.nil) k3 k5 e3 gB (fun k hk=>hk.elim) (fun hT=>by cases hT)
  have hR2:=hR.append k2
  refine⟨((nx,(⟨.pointer (some ⟨g,0,none⟩),fun _=>False⟩:Rzv)) :: [])++zl', Puts.append hB m1 (hR2.dis m2) h4 h5 h6,hR2.append m2,by simp[m3],fun ρ' hρ => ?_⟩
  have hnx:=hρ nx _ (Ze7 _ _ _)
  obtain⟨c1,c2⟩:=m4 ρ' fun T z h=>hρ T z (Zc4 (fun hT=>hR2.dis m2 T hT (ZbY h)) h)
  refine⟨Pars.cons (av := .lf (.box nx 0)) ⟨_,g,hnx,rfl,rfl⟩ c1,_,vs', [],ZbV r (mkLfs ss (Zak ss (flats r) x).1 (nx+1)).2.2,rfl,?_,rfl,c2⟩
  show(bif true then ZbV r (Zcn ss (nx+1)).2 else nx :: ZbV r (Zcn ss (nx+1)).2)=_
  rw[n2,n1];rfl
 | .ptr false ty ss :: r,x,_,F,t,nx,hro,⟨v,vs', F0,F1,e,⟨g,us,F', e2,e3,h2,g1,g2,g3⟩,h3,h4,h5,h6⟩=>by
  subst e
  subst e2
  obtain⟨zl,k1,k2,k3,k4,k5⟩:=ZbF ss (Zak ss (flats r) x).1 us F' (nx+1) h2
  obtain⟨zl', m1,m2,m3,m4⟩:=Zcd r (Zak ss (flats r) x).2 vs' F1 (t+1) (mkLfs ss (Zak ss (flats r) x).1 (nx+1)).2.2 hro h3
  have hR:=Range.one nx ⟨.pointer (some ⟨g,0,none⟩),fun k=>k=g⟩ (.box ty false (mkLfs ss (Zak ss (flats r) x).1 (nx+1)).1)
  have hB:=Puts.box (T:=nx) (t:=ty) k1 k3 k5 e3 g2 (F0:=F0) (fun k hk=>by cases hk;exact g1) g3 (fun hT=>hR.dis k2 nx (List.mem_singleton.2 rfl) hT)
  have hR2:=hR.append k2
  refine⟨((nx,⟨.pointer (some ⟨g,0,none⟩),fun k=>k=g⟩) :: zl)++zl', Puts.append hB m1 (hR2.dis m2) h4 h5 h6,hR2.append m2,by simp[m3],fun ρ' hρ => ?_⟩
  have hnx:=hρ nx _ (Ze7 _ _ _)
  have hzl:∀T z,lk T zl=some z → ρ' T=some z:=fun T z h=>hρ T z (Ze8 (by
   have:=(k2.lo T (ZbY h)).1
   simp only[lk,ZbO (show T≠nx by omega),cond_false]
   exact h))
  have hl:=k5 ρ' hzl
  obtain⟨b1,b2⟩:=Zc1 ss _ (nx+1) us hl
  obtain⟨c1,c2⟩:=m4 ρ' fun T z h=>hρ T z (Zc4 (fun hT=>hR2.dis m2 T hT (ZbY h)) h)
  refine⟨Pars.cons (av := .lf (.box nx 0)) ⟨_,g,hnx,rfl,rfl⟩ c1,_,vs', [nx],ZbV r (mkLfs ss (Zak ss (flats r) x).1 (nx+1)).2.2,rfl,?_,⟨nx,_,rfl,hnx,rfl⟩,c2⟩
  show(bif false then ZbV r (Zcn ss (nx+1)).2 else nx :: ZbV r (Zcn ss (nx+1)).2)=_
  rw[b2];rfl
end
end Go.Proofs.YtoljodiflhbohaaGreatDoor.D
namespace Go.Proofs.YtoljodiflhbohaaGreatDoor.D
open Go Go.RowKit
section
variable {P:Program} {B Z:Nat→Prop} {ρ : Rz} {ob:List (Nat×Ob)} {w:World} {β γ : Type} {KK : γ → List Nat→Option β} {r : β}
theorem ZeP {T:Nat} {o:Ob} (h:lk T ob=some o):Alive ob [T]:=fun U hU=>by rw[List.mem_singleton.1 hU,h];rfl
theorem Ze6 (hm:Mem P B ρ Z (look ob) w):∀(s:LS) (l:Lf) (v:Value) (nd:List Nat) (K:s.den→List Nat→Pg γ),(lfDen s l K).run ob KK nd=some r→LR P B ρ Z w l v →
  ∃x c nd', (K x c).run ob KK nd' = some r∧LSR P B Z w s x v (Of ρ c)∧Alive ob c
 | .v t,l,v,nd,K,h,hl=>by
  obtain⟨x,c,nd1,h,htell,hal⟩:=Zdy hm h hl
  exact⟨x,c,nd1,h,htell,hal⟩
 | .fn asx rt,l,v,nd,K,h,hl=>by cases l <;> cases h
 | .own e m t,l,v,nd,K,h,hl=>by
  cases l <;> first|(cases h;done)|skip
  case nil =>
   have hl:v = .slice none 0 0:=hl
   subst hl
   exact⟨_,[],nd,h,⟨[],World.ownsRow_nil w 0 e t.size,(fun k hk=>by cases hk),fun _ _=>False,(fun j p hp=>by simp at hp),(fun _ _ h=>h.elim),fun _ _ _ _ h=>h.elim⟩,Alive.nil⟩
  case own T =>
   simp only[lfDen,Zbw]at h
   obtain⟨o,ho,h⟩:=h
   cases o with
   | box _ _ _=>cases h
   | hole _ _ _ _ _=>cases h
   | row e' m' t' xs =>
    simp only[ZaO]at h
    obtain⟨hc,h⟩:=h
    rw[Bool.and_eq_true]at hc
    obtain⟨he,hc⟩:=hc
    obtain rfl:=Nat.eq_of_beq_eq_true he
    cases hq:Ty.eq? t' t with
    | none=>rw[hq]at h;cases h
    | some hh =>
     rw[hq]at h
     obtain⟨hh⟩:=hh
     subst hh
     obtain⟨z,hz,rfl,hone⟩:=hl
     obtain⟨z', hz', hr⟩:=hm.obj T _ ho
     obtain rfl:z' = z:=Option.some.inj (hz'.symm.trans hz)
     exact⟨xs,[T],_,h,Zh4 hr hz hc,ZeP ho⟩
theorem ZdK (hm:Mem P B ρ Z (look ob) w) {a b:List Nat} (ha:Alive ob a) (hb:Alive ob b) (hn:nodup (a++b)=true):∀k,Of ρ a k→¬ Of ρ b k:=fun k hk=>Of.sep hm ha hb (nodup_append hn).2.2 hk
theorem ZcN (hm:Mem P B ρ Z (look ob) w):∀(ss:List LS) (ls:List Lf) (vs:List Value) (nd:List Nat) (K:lsd ss→List Nat→Pg γ),(ZgF ss ls K).run ob KK nd=some r→LRs P B ρ Z w ls vs →
  ∃x c nd', (K x c).run ob KK nd' = some r∧(nodup c=true→LSRs P B Z w ss x vs (Of ρ c))∧Alive ob c
 | [],[],vs,nd,K,h,hl=>⟨(),[],nd,h,fun _=>hl,Alive.nil⟩
 | [],_ :: _,vs,nd,K,h,hl=>by cases h
 | s :: ss,[],vs,nd,K,h,hl=>by cases h
 | s :: ss,l :: ls,vs,nd,K,h,⟨v,vs', e,h1,h2⟩=>by
  subst e
  obtain⟨x,c,nd1,h,k1,k2⟩:=Ze6 hm s l v nd _ h h1
  obtain⟨y,c', nd2,h,k3,k4⟩:=ZcN hm ss ls vs' nd1 _ h h2
  exact⟨(x,y),c++c', nd2,h,fun hn=>⟨v,vs', _,_,rfl,k1,k3 (nodup_append hn).2.1,fun k hk=>hk.left,fun k hk=>hk.right,ZdK hm k2 k4 hn⟩,k2.append k4⟩
theorem ZiP (hm:Mem P B ρ Z (look ob) w) {T:Nat} {bt:TypeId} {cells:List Lf} (ho:lk T ob=some (.box bt false cells)) {v:Value} {z0:Rzv} (hz0 : ρ T=some z0) (hv:z0.hdr=v):∃g vs,v = .pointer (some ⟨g,0,none⟩)∧w.heap[g]? = some (.cells vs.toArray bt (0,0))∧LRs P B ρ Z w cells vs∧∀c,Alive ob c→nodup (T :: c)=true→Of ρ (T :: c) g∧¬ Of ρ c g∧∀k,Of ρ c k→Of ρ (T :: c) k:=by
 obtain⟨z,hz,g,vs,h1,h2,h3,h4,h5,h6⟩:=hm.obj T _ ho
 obtain rfl:z=z0:=Option.some.inj (hz.symm.trans hz0)
 refine⟨g,vs,hv ▸ h1,h2,h3,fun c hc hn=>⟨⟨T,z,List.mem_cons_self,hz,h5 rfl⟩,fun hk => ?_,fun k ⟨U,zu,k1,k2⟩=>⟨U,zu,List.mem_cons_of_mem _ k1,k2⟩⟩⟩
 exact ZdK hm (ZeP ho) hc hn g ⟨T,z,List.mem_singleton.2 rfl,hz,h5 rfl⟩ hk
theorem ZcQ (hm:Mem P B ρ Z (look ob) w):∀(outs:List ASh) (avs:List AV) (us:List Value) (nd:List Nat) (K:lsd (flats outs)→List Nat→Pg γ),(ZfJ outs avs K).run ob KK nd=some r→AVs P B ρ Z w avs us →
  ∃y c nd', (K y c).run ob KK nd' = some r∧(nodup c=true→ASRs P B Z w outs y us (Of ρ c))∧Alive ob c
 | [],[],us,nd,K,h,hl=>⟨(),[],nd,h,fun _=>hl,Alive.nil⟩
 | [],_ :: _,us,nd,K,h,hl=>by cases h
 | .one s :: outs,avs,us,nd,K,h,hl=>by
  rcases avs with _|⟨av,avs⟩
  ·
   cases h
  ·
   cases av <;> first|(cases h;done)|skip
   rename_i l
   obtain⟨v,vs', rfl,h1,h2⟩:=hl
   obtain⟨x,c,nd1,h,k1,k2⟩:=Ze6 hm s l v nd _ h h1
   obtain⟨y,c', nd2,h,k3,k4⟩:=ZcQ hm outs avs vs' nd1 _ h h2
   exact⟨_,c++c', nd2,h,fun hn=>⟨v,vs', _,_,rfl,k1,k3 (nodup_append hn).2.1,fun k hk=>hk.left,fun k hk=>hk.right,ZdK hm k2 k4 hn⟩,k2.append k4⟩
 | .eat _ _ _ :: outs,avs,us,nd,K,h,hl=>by
  rcases avs with _|⟨av,avs⟩
  ·
   cases h
  ·
   cases av <;> cases h
 | .non :: outs,avs,us,nd,K,h,hl=>by
  rcases avs with _|⟨av,avs⟩
  ·
   cases h
  ·
   cases av <;> cases h
 | .agg ss :: outs,avs,us,nd,K,h,hl=>by
  rcases avs with _|⟨av,avs⟩
  ·
   cases h
  ·
   cases av <;> first|(cases h;done)|skip
   rename_i ls
   obtain⟨v,vs', rfl,⟨us', e,h1⟩,h2⟩:=hl
   obtain⟨x,c,nd1,h,k1,k2⟩:=ZcN hm ss ls us' nd _ h h1
   obtain⟨y,c', nd2,h,k3,k4⟩:=ZcQ hm outs avs vs' nd1 _ h h2
   refine⟨_,c++c', nd2,h,fun hn=>⟨v,vs', Of ρ c,Of ρ c', rfl,?_,?_,fun k hk=>hk.left,fun k hk=>hk.right,ZdK hm k2 k4 hn⟩,k2.append k4⟩
   ·
    show ASR P B Z w (.agg ss) (Zak ss (flats outs) _).1 v _
    rw[Zbv]
    exact⟨us', e,k1 (nodup_append hn).1⟩
   ·
    show ASRs P B Z w outs (Zak ss (flats outs) _).2 vs' _
    rw[Zbv]
    exact k3 (nodup_append hn).2.1
 | .ptr ro t ss :: outs,avs,us,nd,K,h,hl=>by
  rcases avs with _|⟨av,avs⟩
  ·
   cases ro <;> cases h
  ·
   cases ro with
   | true=>cases av <;> cases h
   | false =>
    cases av <;> first|(cases h;done)|skip
    rename_i l
    cases l <;> first|(cases h;done)|skip
    rename_i T off
    cases off with
    | succ _=>cases h
    | zero =>
     obtain⟨v,vs', rfl,⟨z0,g0,hz0,hg0,hv⟩,h2⟩:=hl
     simp only[ZfJ,Zbw]at h
     obtain⟨o,ho,h⟩:=h
     cases o with
     | row _ _ _ _=>cases h
     | hole _ _ _ _ _=>cases h
     | box bt ro cells =>
      cases ro with
      | true=>cases h
      | false =>
       simp only[ZaO]at h
       obtain⟨hb,h⟩:=h
       obtain rfl:=Nat.eq_of_beq_eq_true hb
       obtain⟨g,cs,e1,e2,e3,e4⟩:=ZiP hm ho hz0 (v:=v) (hg0.trans hv.symm)
       obtain⟨x,c,nd1,h,k1,k2⟩:=ZcN hm ss cells cs _ _ h e3
       obtain⟨y,c', nd2,h,k3,k4⟩:=ZcQ hm outs avs vs' nd1 _ h h2
       have hal:Alive ob (T :: c):=fun U hU=>(List.mem_cons.1 hU).elim (fun e=>by rw[e,ho];rfl) (k2 U)
       refine⟨_,T :: c++c', nd2,h,fun hn=>⟨v,vs', Of ρ (T :: c),Of ρ c', rfl,?_,?_,fun k hk=>hk.left,fun k hk=>hk.right,ZdK hm hal k4 hn⟩,hal.append k4⟩
       ·
        show ASR P B Z w (.ptr false _ ss) (Zak ss (flats outs) _).1 v _
        rw[Zbv]
        have hn1:=(nodup_append hn).1
        exact⟨g,cs,Of ρ c,e1,e2,k1 (by simp only[nodup,Bool.and_eq_true]at hn1;exact hn1.2),e4 c k2 hn1⟩
       ·
        show ASRs P B Z w outs (Zak ss (flats outs) _).2 vs' _
        rw[Zbv]
        exact k3 (nodup_append hn).2.1
theorem ZdU (hm:Mem P B ρ Z (look ob) w):∀(s:LS) (v:Value) (ts Ts:List Nat) (nd:List Nat) (K:lsd s.back→List Nat→List Nat→Pg γ),(ZfW s (ts++Ts) K).run ob KK nd=some r→ZeN ρ s v ts →
  ∃x c nd', (K x Ts c).run ob KK nd' = some r∧IoLS Z w s v x (Of ρ c)∧Alive ob c
 | .v t,v,ts,Ts,nd,K,h,hb=>by
  cases hb
  exact⟨(),[],nd,h,trivial,Alive.nil⟩
 | .fn asx rt,v,ts,Ts,nd,K,h,hb=>by
  cases hb
  exact⟨(),[],nd,h,trivial,Alive.nil⟩
 | .own e m t,v,ts,Ts,nd,K,h,hb=>by
  obtain⟨T,z,rfl,hz,hv⟩:=hb
  simp only[List.singleton_append,ZfW,Zbw]at h
  obtain⟨o,ho,h⟩:=h
  cases o with
  | box _ _ _=>cases h
  | hole _ _ _ _ _=>cases h
  | row e' m' t' xs =>
   simp only[ZaO]at h
   obtain⟨hc,h⟩:=h
   rw[Bool.and_eq_true]at hc
   obtain⟨he,hc⟩:=hc
   obtain rfl:=Nat.eq_of_beq_eq_true he
   cases hq:Ty.eq? t' t with
   | none=>rw[hq]at h;cases h
   | some hh =>
    rw[hq]at h
    obtain⟨hh⟩:=hh
    subst hh
    obtain⟨z', hz', hr⟩:=hm.obj T _ ho
    obtain rfl:z' = z:=Option.some.inj (hz'.symm.trans hz)
    subst hv
    exact⟨(xs,()),[T],_,h,Zh4 hr hz hc,ZeP ho⟩
theorem ZdE (hm:Mem P B ρ Z (look ob) w):∀(ss:List LS) (vs:List Value) (ts Ts:List Nat) (nd:List Nat) (K:lsd (backs ss)→List Nat→List Nat→Pg γ),(ZfX ss (ts++Ts) K).run ob KK nd=some r→ZcA ρ ss vs ts →
  ∃x c nd', (K x Ts c).run ob KK nd' = some r∧(nodup c=true→IoLSs Z w ss vs x (Of ρ c))∧Alive ob c
 | [],vs,ts,Ts,nd,K,h,hb=>by
  cases hb
  exact⟨(),[],nd,h,fun _=>trivial,Alive.nil⟩
 | s :: ss,vs,ts,Ts,nd,K,h,⟨v,vs', t1,t2,e1,e2,b1,b2⟩=>by
  subst e1
  subst e2
  rw[List.append_assoc]at h
  obtain⟨x,c,nd1,h,k1,k2⟩:=ZdU hm s v t1 (t2++Ts) nd _ h b1
  obtain⟨y,c', nd2,h,k3,k4⟩:=ZdE hm ss vs' t2 Ts nd1 _ h b2
  refine⟨_,c++c', nd2,h,fun hn=>⟨v,vs', Of ρ c,Of ρ c', rfl,?_,?_,fun k hk=>hk.left,fun k hk=>hk.right,ZdK hm k2 k4 hn⟩,k2.append k4⟩
  ·
   rw[Zbv];exact k1
  ·
   rw[Zbv];exact k3 (nodup_append hn).2.1
theorem Zcb (hm:Mem P B ρ Z (look ob) w):∀(ins:List ASh) (vs:List Value) (Ts:List Nat) (nd:List Nat) (K:lsd (ios ins)→List Nat→Pg γ),(ioDen ins Ts K).run ob KK nd=some r→Zda ρ ins vs Ts →
  ∃x c nd', (K x c).run ob KK nd' = some r∧(nodup c=true→IoRs P B Z w ins vs x (Of ρ c))∧Alive ob c
 | [],vs,Ts,nd,K,h,hb=>by
  cases hb
  exact⟨(),[],nd,h,fun _=>trivial,Alive.nil⟩
 | .one s :: ins,vs,Ts,nd,K,h,⟨v,vs', t1,t2,e1,e2,b1,b2⟩=>by
  subst e1
  subst e2
  obtain⟨x,c,nd1,h,k1,k2⟩:=ZdU hm s v t1 t2 nd _ h b1
  obtain⟨y,c', nd2,h,k3,k4⟩:=Zcb hm ins vs' t2 nd1 _ h b2
  refine⟨_,c++c', nd2,h,fun hn=>⟨v,vs', Of ρ c,Of ρ c', rfl,?_,?_,fun k hk=>hk.left,fun k hk=>hk.right,ZdK hm k2 k4 hn⟩,k2.append k4⟩
  ·
   show IoR P B Z w (.one s) v (Zak s.back (ios ins) _).1 _
   rw[Zbv];exact k1
  ·
   show IoRs P B Z w ins vs' (Zak s.back (ios ins) _).2 _
   rw[Zbv];exact k3 (nodup_append hn).2.1
 | .agg ss :: ins,vs,Ts,nd,K,h,⟨v,vs', t1,t2,e1,e2,⟨us,e3,b1⟩,b2⟩=>by
  subst e1
  subst e2
  obtain⟨x,c,nd1,h,k1,k2⟩:=ZdE hm ss us t1 t2 nd _ h b1
  obtain⟨y,c', nd2,h,k3,k4⟩:=Zcb hm ins vs' t2 nd1 _ h b2
  refine⟨_,c++c', nd2,h,fun hn=>⟨v,vs', Of ρ c,Of ρ c', rfl,?_,?_,fun k hk=>hk.left,fun k hk=>hk.right,ZdK hm k2 k4 hn⟩,k2.append k4⟩
  ·
   show IoR P B Z w (.agg ss) v (Zak (backs ss) (ios ins) _).1 _
   rw[Zbv];exact⟨us,e3,k1 (nodup_append hn).1⟩
  ·
   show IoRs P B Z w ins vs' (Zak (backs ss) (ios ins) _).2 _
   rw[Zbv];exact k3 (nodup_append hn).2.1
 | .ptr true t ss :: ins,vs,Ts,nd,K,h,⟨v,vs', t1,t2,e1,e2,b1,b2⟩=>by
  subst e1
  subst e2
  cases b1
  obtain⟨y,c', nd2,h,k3,k4⟩:=Zcb hm ins vs' t2 nd _ h b2
  exact⟨y,c', nd2,h,fun hn=>⟨v,vs', fun _=>False,Of ρ c', rfl,trivial,k3 hn,fun k hk=>hk.elim,fun k hk=>hk,fun k hk=>hk.elim⟩,k4⟩
 | .non :: ins,vs,Ts,nd,K,h,⟨v,vs', t1,t2,e1,e2,b1,b2⟩=>by
  subst e1
  subst e2
  cases b1
  obtain⟨y,c', nd2,h,k3,k4⟩:=Zcb hm ins vs' t2 nd _ h b2
  exact⟨y,c', nd2,h,fun hn=>⟨v,vs', fun _=>False,Of ρ c', rfl,trivial,k3 hn,fun k hk=>hk.elim,fun k hk=>hk,fun k hk=>hk.elim⟩,k4⟩
 | .eat _ _ _ :: ins,vs,Ts,nd,K,h,⟨v,vs', t1,t2,e1,e2,b1,b2⟩=>by
  subst e1
  subst e2
  cases b1
  obtain⟨y,c', nd2,h,k3,k4⟩:=Zcb hm ins vs' t2 nd _ h b2
  exact⟨y,c', nd2,h,fun hn=>⟨v,vs', fun _=>False,Of ρ c', rfl,trivial,k3 hn,fun k hk=>hk.elim,fun k hk=>hk,fun k hk=>hk.elim⟩,k4⟩
 | .ptr false t ss :: ins,vs,Ts,nd,K,h,⟨v,vs', t1,t2,e1,e2,⟨T,z0,e3,hz0,hv⟩,b2⟩=>by
  subst e1
  subst e2
  subst e3
  simp only[List.singleton_append,ioDen,Zbw]at h
  obtain⟨o,ho,h⟩:=h
  cases o with
  | row _ _ _ _=>cases h
  | hole _ _ _ _ _=>cases h
  | box bt ro cells =>
   cases ro with
   | true=>cases h
   | false =>
    simp only[ZaO]at h
    obtain⟨hb,h⟩:=h
    obtain rfl:=Nat.eq_of_beq_eq_true hb
    obtain⟨g,cs,e1,e2,e3,e4⟩:=ZiP hm ho hz0 hv
    obtain⟨x,c,nd1,h,k1,k2⟩:=ZcN hm ss cells cs _ _ h e3
    obtain⟨y,c', nd2,h,k3,k4⟩:=Zcb hm ins vs' t2 nd1 _ h b2
    have hal:Alive ob (T :: c):=fun U hU=>(List.mem_cons.1 hU).elim (fun e=>by rw[e,ho];rfl) (k2 U)
    refine⟨_,T :: c++c', nd2,h,fun hn=>⟨v,vs', Of ρ (T :: c),Of ρ c', rfl,?_,?_,fun k hk=>hk.left,fun k hk=>hk.right,ZdK hm hal k4 hn⟩,hal.append k4⟩
    ·
     show IoR P B Z w (.ptr false _ ss) v (Zak ss (ios ins) _).1 _
     rw[Zbv]
     have hn1:=(nodup_append hn).1
     exact⟨g,cs,Of ρ c,e1,e2,k1 (by simp only[nodup,Bool.and_eq_true]at hn1;exact hn1.2),e4 c k2 hn1⟩
    ·
     show IoRs P B Z w ins vs' (Zak ss (ios ins) _).2 _
     rw[Zbv]
     exact k3 (nodup_append hn).2.1
theorem ZcA.mono {ρ' : Rz}:∀{ss:List LS} {vs:List Value} {Ts:List Nat},(∀T∈Ts,∀z,ρ T=some z→∃z', ρ' T=some z' ∧ z'.hdr=z.hdr)→ZcA ρ ss vs Ts→ZcA ρ' ss vs Ts
 | [],_,_,_,h=>h
 | s :: ss,_,_,hh,⟨v,vs', t1,t2,e1,e2,b1,b2⟩=>⟨v,vs', t1,t2,e1,e2,backLS_mono (fun T hT=>hh T (e2 ▸ List.mem_append_left _ hT)) b1,ZcA.mono (fun T hT=>hh T (e2 ▸ List.mem_append_right _ hT)) b2⟩
where
 backLS_mono {ρ' : Rz} {s:LS} {v:Value} {Ts:List Nat} (hh:∀T∈Ts,∀z,ρ T=some z→∃z', ρ' T=some z' ∧ z'.hdr=z.hdr) (h:ZeN ρ s v Ts):ZeN ρ' s v Ts:=by
  cases s with
  | v t=>exact h
  | fn asx rt=>exact h
  | own e m t =>
   obtain⟨T,z,rfl,h1,h2⟩:=h
   obtain⟨z', h3,h4⟩:=hh T (List.mem_singleton.2 rfl) z h1
   exact⟨T,z', rfl,h3,h4.trans h2⟩
theorem Zda.mono {ρ' : Rz}:∀{ins:List ASh} {vs:List Value} {Ts:List Nat},(∀T∈Ts,∀z,ρ T=some z→∃z', ρ' T=some z' ∧ z'.hdr=z.hdr)→Zda ρ ins vs Ts→Zda ρ' ins vs Ts
 | [],_,_,_,h=>h
 | a :: ins,_,_,hh,⟨v,vs', t1,t2,e1,e2,b1,b2⟩=>by
  have h1:∀T∈t1,∀z,ρ T=some z→∃z', ρ' T=some z' ∧ z'.hdr=z.hdr:=fun T hT=>hh T (e2 ▸ List.mem_append_left _ hT)
  refine⟨v,vs', t1,t2,e1,e2,?_,Zda.mono (fun T hT=>hh T (e2 ▸ List.mem_append_right _ hT)) b2⟩
  cases a with
  | eat _ _ _=>exact b1
  | non=>exact b1
  | one s=>exact ZcA.mono.backLS_mono h1 b1
  | agg ss =>
   obtain⟨us,k1,k2⟩:=b1
   exact⟨us,k1,k2.mono h1⟩
  | ptr ro t ss =>
   cases ro with
   | true=>exact b1
   | false =>
    obtain⟨T,z,rfl,k1,k2⟩:=b1
    obtain⟨z', k3,k4⟩:=h1 T (List.mem_singleton.2 rfl) z k1
    exact⟨T,z', rfl,k3,k4.trans k2⟩
inductive Each {α δ : Type} (R : α → δ → Prop):List α → List δ → Prop where
 | nil:Each R [] []
 | cons {a : α} {b : δ} {l:List α} {m:List δ}:R a b→Each R l m→Each R (a :: l) (b :: m)
def ZeB (tmps:Array Value):ResultVar→Sem Value
 | .tmp t=>pure (tmps.getD t undef)
 | .cell a t=>do loadVar t (←asAddr (tmps.getD a undef))
theorem Zit (fn:Func) (tmps:Array Value):results fn tmps=(do
  let vs ←fn.results.mapM (ZeB tmps)
  pure (if h:vs.size=1 then vs[0]else .tuple vs)):=rfl
theorem ZhZ {tmps:Array Value}:∀(l:List ResultVar) (us:List Value),Each (fun x u=>(ZeB tmps x).run P w = .ok u w) l us→(l.mapM (ZeB tmps)).run P w = .ok us w
 | [],_,.nil=>by simp
 | x :: l,_,.cons (b:=u) h hs=>by
  rw[List.mapM_cons]
  simp[h,ZhZ l _ hs]
theorem Zhz {fn:Func} {tmps:Array Value} {us:List Value} (h:Each (fun x u=>(ZeB tmps x).run P w = .ok u w) fn.results.toList us):(results fn tmps).run P w = .ok (outV us) w:=by
 rw[Zit,Array.mapM_eq_mapM_toList]
 simp only[Sem.run_bind,Sem.run_map,ZhZ _ _ h,Result.andThen]
 rcases us with _|⟨u,_|⟨u', us⟩⟩
 ·
  simp[outV]
 ·
  simp[outV]
 ·
  simp[outV]
theorem Zc7 (hm:Mem P B ρ Z (look ob) w) {E:Env} (hE:TtOk P E.tt) {fr:List (Nat×AV)} {a:Act} (hfr:∀t av,lk t fr=some av→AR P B ρ Z w av (a.eval (.tmp t))):∀(res:List ResultVar) (nd:List Nat) (K:List AV→Pg γ),(resPg E fr res K).run ob KK nd=some r →
  ∃avs us nd', (K avs).run ob KK nd' = some r∧AVs P B ρ Z w avs us∧Each (fun x u=>(ZeB a.tmps x).run P w = .ok u w) res us
 | [],nd,K,h=>⟨[],[],nd,h,rfl,.nil⟩
 | .tmp t :: res,nd,K,h=>by
  unfold resPg at h
  split at h
  ·
   rename_i v hv
   obtain⟨avs,us,nd', h1,h2,h3⟩:=Zc7 hm hE hfr res nd _ h
   exact⟨v :: avs,_ :: us,nd', h1,⟨_,us,rfl,hfr t v hv,h2⟩,.cons (by simp[ZeB,Act.eval]) h3⟩
  ·
   cases h
 | .cell b t :: res,nd,K,h=>by
  unfold resPg at h
  split at h
  ·
   rename_i T off i hb hi
   rw[Zbw]at h
   obtain⟨o,ho,h⟩:=h
   cases o with
   | row _ _ _ _=>cases h
   | hole _ _ _ _ _=>cases h
   | box bt ro cells =>
    obtain⟨z,hz,g,vs,h1,h2,h3,h4,h5,h6⟩:=hm.obj T _ ho
    have hev:a.eval (.tmp b) = .pointer (some ⟨g,off,none⟩):=by
     obtain⟨z', g', k1,k2,k3⟩:=hfr b _ hb
     obtain rfl:z' = z:=Option.some.inj (k1.symm.trans hz)
     rw[h1]at k2
     cases k2
     exact k3
    have hev:a.tmps.getD b undef = .pointer (some ⟨g,off,none⟩):=hev
    have hcell:∀(j:Nat) u,((vs.drop off).take i.size)[j]? = some u→w.cell? ((⟨g,off,none⟩:Addr).add j)=some u:=fun j u hu=>by
     rw[ZbL,cell_of_row w g (off+j) vs.toArray bt (0,0) h2]
     simpa using Zec hu
    have hl:=(h3.drop off).take i.size
    have ht:=hE t i hi
    simp only at h
    split at h
    ·
     rename_i fs hk
     rw[ZaO]at h
     obtain⟨hn,h⟩:=h
     have hn:=Nat.eq_of_beq_eq_true hn
     have hsz:((vs.drop off).take i.size).length=i.size:=by rw[hl.len,hn]
     have hr:=run_loadCells_list (P:=P) w ⟨g,off,none⟩ _ hcell
     rw[hsz]at hr
     obtain⟨avs,us,nd', g1,g2,g3⟩:=Zc7 hm hE hfr res _ _ h
     refine⟨_ :: avs,.agg ((vs.drop off).take i.size).toArray :: us,nd', g1,⟨_,us,rfl,⟨_,rfl,hl⟩,g2⟩,.cons ?_ g3⟩
     simp[ZeB,hev,asAddr,loadVar,Zdx ht w hk,Zb9 ht,hr]
    ·
     rename_i hk
     split at h
     ·
      rename_i l hls
      rw[hls]at hl
      obtain⟨v,hv,hv'⟩:=hl.one_inv
      have hc0:=hcell 0 v (by rw[hv];rfl)
      rw[add_zero]at hc0
      obtain⟨avs,us,nd', g1,g2,g3⟩:=Zc7 hm hE hfr res _ _ h
      refine⟨_ :: avs,v :: us,nd', g1,⟨_,us,rfl,hv', g2⟩,.cons ?_ g3⟩
      simp[ZeB,hev,asAddr,loadVar,Zct ht w (fun fs hf=>hk fs hf),hc0]
     ·
      cases h
  ·
   cases h
end
end Go.Proofs.YtoljodiflhbohaaGreatDoor.D
namespace Go.Proofs.YtoljodiflhbohaaGreatDoor.D
open Go Go.RowKit
structure FnOk (P:Program) (E:Env) (g:FuncId) (fn:Func) (f:Fn):Prop where
 func:P.funcs[g]? = some fn
 body:fn.body=some f.body
 name : (fn.name == "runtime.NumGoroutine") = false
 res:fn.results.toList=f.res
 n:fn.ntmps=E.n
 len:f.ins.length≤E.n
 ro:roOk f.ins=true
 pin:(ZbV f.ins 0).all (fun T=>Nat.blt T E.pin)=true
section
variable {P:Program} {E:Env}
theorem Zj5 {B Z S:Nat→Prop} {w:World} {f:Fn} {x:lsd (flats f.ins)} {vs:List Value} (hro:roOk f.ins=true) (hlen:f.ins.length≤E.n) (h:ASRs P B Z w f.ins x vs S) (hS:∀k,S k→¬ Z k∧¬ B k∧k < w.heap.size) (hZ:∀k,Z k→k < w.heap.size) (hB:∀k,B k→k < w.heap.size) :
  ∃ρ0:Rz,(∀k,Own ρ0 (look (entry f.ins x).ob) k→S k)∧Zda ρ0 f.ins vs (ZbV f.ins 0)∧At P B E.n E.pin ρ0 Z (look (entry f.ins x).ob) w (entry f.ins x) { tmps:=vs.toArray++Array.replicate (E.n - vs.toArray.size) undef,defers:=[] } w:=by
 obtain⟨zl,k1,k2,k3,k4⟩:=Zcd f.ins x vs S 0 0 hro h
 have e:entry f.ins x=⟨(mkIns f.ins x 0 0).1,(mkIns f.ins x 0 0).2.1,(mkIns f.ins x 0 0).2.2⟩:=rfl
 rw[e]
 obtain⟨c1,c2⟩:=k4 (fun T=>lk T zl) fun _ _ h=>h
 have hown:∀k,Own (fun T=>lk T zl) (look (mkIns f.ins x 0 0).2.1) k→S k:=fun k ⟨T,z,_,h2,h3⟩=>k1.sub T z h2 k h3
 have hvs:vs.length≤E.n:=by rw[k3];exact hlen
 refine⟨fun T=>lk T zl,hown,c2,⟨fun T=>lk T zl,Z,_,rfl,⟨fun T o ho => ?_,fun T T' z z' k hne _ _ h1 h2=>k1.dis T T' z z' k hne h1 h2,fun k hk=>⟨(hS k (hown k hk)).1,(hS k (hown k hk)).2.2⟩,hZ,fun k hk=>(hS k (hown k hk)).2.1,hB⟩,Bas.refl,fun t av hav => ?_,?_,rfl,fun T (hT:(mkIns f.ins x 0 0).2.2≤T)=>ZcG fun hk => ?_⟩⟩
 ·
  have hk:T∈keys zl:=k1.key ▸ ZbY ho
  rw[ZbJ]at hk
  cases hz:lk T zl with
  | none=>rw[hz]at hk;cases hk
  | some z=>exact⟨z,rfl,k1.ors _ (fun _ _ h=>h) T o z ho hz⟩
 ·
  obtain⟨i,v,h1,h2,h3⟩:=c1 t av hav
  rw[Nat.zero_add]at h1
  subst h1
  have hi:=(List.getElem?_eq_some_iff.1 h2).1
  have:({ tmps:=vs.toArray++Array.replicate (E.n - vs.toArray.size) undef,defers:=[] }:Act).eval (.tmp t)=v:=by
   simp only[Act.eval,Array.getD_eq_getD_getElem?]
   rw[Array.getElem?_append_left (by simpa using hi)]
   simp[h2]
  rw[this]
  exact h3
 ·
  simp
  omega
 ·
  have:=(k2.lo T hk).2
  omega
theorem ZgB {B Z S:Nat→Prop} {w w' : World} {f:Fn} {vs:List Value} {ρ0:Rz} {ob0:Obs} {σ : St} {a:Act} {yz:lsd (flats f.outs)×lsd (ios f.ins)} {fn:Func} (hE:EnvOk P E) (hres:fn.results.toList=f.res) (hpin:(ZbV f.ins 0).all (fun T=>Nat.blt T E.pin)=true)
  (hS:∀k,Own ρ0 ob0 k→S k) (hb:Zda ρ0 f.ins vs (ZbV f.ins 0)) (h:At P B E.n E.pin ρ0 Z ob0 w σ a w') (hc:collect E f σ = some yz) :
  a.defers=[]∧∃u,(results fn a.tmps).run P w' = .ok u w' ∧ ∃Z' Fi Fo,PostR P B Z S w f.ins f.outs vs yz.1 yz.2 u w' Z' Fi Fo:=by
 obtain⟨ρ,Z', L,h1,hm,hbas,hfr,h5,h6,h7⟩:=h
 refine⟨h6,?_⟩
 unfold collect at hc
 obtain⟨avs,us,nd1,hc,k1,k2⟩:=Zc7 hm hE.tt (a:=a) hfr _ _ _ hc
 obtain⟨y,c,nd2,hc,k3,k4⟩:=ZcQ hm _ _ us _ _ hc k1
 have hb' : Zda ρ f.ins vs (ZbV f.ins 0):=hb.mono fun T hT z hz=>hbas.hdr T z (by
  rw[List.all_eq_true]at hpin
  simpa using hpin T hT) hz
 obtain⟨z,c', nd3,hc,k5,k6⟩:=Zcb hm _ vs _ _ _ hc hb'
 rw[ZaO]at hc
 obtain⟨hn,hc⟩:=hc
 have hc:some (y,z)=some yz:=hc
 cases hc
 obtain⟨n1,n2,n3⟩:=nodup_append hn
 rw[←hres]at k2
 refine⟨outV us,Zhz k2,Z', Of ρ c', Of ρ c,k5 n2,⟨us,rfl,k3 n1⟩,fun k hk hk' => ZdK hm k4 k6 hn k hk' hk,fun k hk => ?_,hbas.zm,fun k hk=>⟨?_,hm.zlt k hk⟩,hbas.os,hbas.tape,hbas.output,hbas.size,fun k hk hs=>hbas.old k hk fun ho=>hs (hS k ho)⟩
 ·
  have ho:Own ρ (look σ.ob) k:=hk.elim (fun h=>h.own k6) fun h=>h.own k4
  exact⟨(hbas.own k ho).imp (hS k) id,(hm.zsep k ho).2,(hm.zsep k ho).1⟩
 ·
  rcases hbas.zn k hk with h|h|h
  ·
   exact .inl h
  ·
   exact .inr (.inl (hS k h))
  ·
   exact .inr (.inr h)
theorem ZdY (hE:EnvOk P E) (hm:P.follows .mixedOrders=true) {g:FuncId} {fn:Func} {f:Fn} (h:FnOk P E g fn f) {R:Type} {enc:lsd (flats f.outs)×lsd (ios f.ins)→R} {dec:R→lsd (flats f.outs)×lsd (ios f.ins)} (hde:∀y,dec (enc y)=y):Valid P g ⟨f.ins,f.outs,R,denF E f enc,dec⟩:=by
 refine⟨⟨fn,h.func,h.name,by rw[h.body];rfl⟩,fun x r hx Z B S w vs hargs hS hZ hB => ?_⟩
 obtain⟨ρ0,e1,e2,e3⟩:=Zj5 (E:=E) (f:=f) h.ro h.len hargs hS hZ hB
 refine calls_of_wp h.func h.body ?_
 rw[h.n]
 have out:∀{yz},(collect E f yz).map enc=some r→∃y,collect E f yz=some y∧dec r=y:=fun {σ} h=>by
  cases hc:collect E f σ with
  | none=>rw[hc]at h;cases h
  | some y =>
   rw[hc]at h
   cases h
   exact⟨y,rfl,hde y⟩
 refine Zie hE hm f.body (retG f enc E) r (entry f.ins x) _ w _ hx e3 fun ex σ' a' w' hk hat => ?_
 cases ex with
 | normal =>
  obtain⟨y,hy,e⟩:=out hk
  obtain⟨d,u,hr,hp⟩:=ZgB (fn:=fn) hE h.res h.pin e1 e2 hat hy
  exact⟨d,u,hr,u,rfl,by show ∃Z' Fi Fo,PostR P B Z S w f.ins f.outs vs (dec r).1 (dec r).2 u w' Z' Fi Fo;rw[e];exact hp⟩
 | exit i=>cases hk
 | ret =>
  obtain⟨y,hy,e⟩:=out hk
  obtain⟨d,u,hr,hp⟩:=ZgB (fn:=fn) hE h.res h.pin e1 e2 hat hy
  exact⟨d,u,hr,u,rfl,by show ∃Z' Fi Fo,PostR P B Z S w f.ins f.outs vs (dec r).1 (dec r).2 u w' Z' Fi Fo;rw[e];exact hp⟩
end
end Go.Proofs.YtoljodiflhbohaaGreatDoor.D
namespace Go.Proofs.YtoljodiflhbohaaGreatDoor.D
open Go Go.RowKit
theorem run_bind {γ β δ : Type} (ob:List (Nat×Ob)) (K : γ → List Nat→Option β) (G : β → Option δ):∀(pg:Pg γ) (nd:List Nat),pg.run ob (fun g n=>(K g n).bind G) nd=(pg.run ob K nd).bind G:=by
 intro pg
 induction pg with
 | fail=>intro nd;rfl
 | ret g=>intro nd;rfl
 | obj T f ih =>
  intro nd
  unfold Pg.run
  cases lk T ob with
  | none=>rfl
  | some o=>exact ih o _
 | test p d x y ihx ihy =>
  intro nd
  unfold Pg.run
  by_cases hp:p
  ·
   rw[if_pos hp,if_pos hp];exact ihx nd
  ·
   rw[if_neg hp,if_neg hp];exact ihy nd
 | call v f ih =>
  intro nd
  unfold Pg.run
  cases v with
  | none=>rfl
  | some a=>exact ih a nd
theorem Zi7 {β δ : Type} (E:Env) (σ : St) (dec:List (Nat×Bool)) (o:Oper) (k:St→Trc→Option β) (G : β → Option δ):goOp E σ dec o (fun s t=>(k s t).bind G)=(goOp E σ dec o k).bind G:=by
 unfold goOp
 rw[←run_bind]
 congr 1
 funext e nd
 split
 ·
  cases newOk σ e _ e.add.length && dstOk E o.dst <;> rfl
 ·
  rfl
theorem ZjM {β δ : Type} (E:Env) (o:Oper) (x:Option β) (G : β → Option δ):skOp E o (x.bind G)=(skOp E o x).bind G:=by
 unfold skOp
 cases dstOk E o.dst <;> rfl
theorem ZdQ {β δ : Type} (E:Env) (all:List Oper) (K:St→List Trc→Option β) (G : β → Option δ):∀(ops:List Oper) (σ : St) (dec:List (Nat×Bool)) (tr:List Trc),Zb3 E all (fun s t=>(K s t).bind G) ops σ dec tr=(Zb3 E all K ops σ dec tr).bind G
 | [],σ,dec,tr=>rfl
 | o :: r,σ,dec,tr=>by
  have go:∀dec,goOp E σ dec o (fun s t=>Zb3 E all (fun s t=>(K s t).bind G) r s (rmD o.dst dec) (t :: tr))=(goOp E σ dec o (fun s t=>Zb3 E all K r s (rmD o.dst dec) (t :: tr))).bind G:=fun dec=>by
   rw[←Zi7]
   congr 1
   funext s t
   exact ZdQ E all K G r s _ _
  have sk:∀dec,skOp E o (Zb3 E all (fun s t=>(K s t).bind G) r (σ.skip o.dst) (rmD o.dst dec) (([],[]) :: tr))=(skOp E o (Zb3 E all K r (σ.skip o.dst) (rmD o.dst dec) (([],[]) :: tr))).bind G:=fun dec=>by
   rw[←ZjM,ZdQ E all K G r]
  unfold Zb3
  split
  ·
   exact go dec
  ·
   split
   ·
    rfl
   ·
    split
    ·
     rename_i b _
     cases b == _
     ·
      exact sk dec
     ·
      exact go dec
    ·
     split
     ·
      rename_i n p d _
      by_cases hp:p
      ·
       rw[if_pos hp,if_pos hp]
       generalize (!n == _)=bb
       cases bb
       ·
        exact sk _
       ·
        exact go _
      ·
       rw[if_neg hp,if_neg hp]
       generalize (n == _)=bb
       cases bb
       ·
        exact sk _
       ·
        exact go _
     ·
      exact sk dec
     ·
      rfl
theorem ZjL {β δ : Type} (k:St→Option β) (K:Ex→St→Option β) (G : β → Option δ):(fun e s=>(seqK k K e s).bind G)=seqK (fun s=>(k s).bind G) (fun e s=>(K e s).bind G):=by
 funext e s
 cases e <;> rfl
theorem ZiN {β δ : Type} (id:Nat) (K:Ex→St→Option β) (G : β → Option δ):(fun e s=>(blkK id K e s).bind G)=blkK id (fun e s=>(K e s).bind G):=by
 funext e s
 cases e with
 | exit i =>
  show(bif Nat.beq i id then K .normal s else K (.exit i) s).bind G=bif Nat.beq i id then(K .normal s).bind G else(K (.exit i) s).bind G
  cases Nat.beq i id <;> rfl
 | _=>rfl
theorem ZiZ (E:Env):∀(c:Code) {β δ : Type} (σ : St) (K:Ex→St→Option β) (G : β → Option δ),denC E c σ (fun e s=>(K e s).bind G)=(denC E c σ K).bind G:=by
 intro c
 induction c with
 | skip=>intro β δ σ K G;simp only[denC]
 | region id ops draw =>
  intro β δ σ K G
  simp only[denC]
  rw[←ZdQ]
  congr 1
  funext s tr
  cases draw
  ·
   rfl
  ·
   cases h:bern ops tr <;> simp
 | seq x y ihx ihy =>
  intro β δ σ K G
  simp only[denC]
  rw[←ihx,ZjL]
  congr 2
  funext s
  exact ihy s K G
 | cond c x y ihx ihy =>
  intro β δ σ K G
  simp only[denC]
  split
  ·
   rename_i n p d _
   by_cases hp:p
   ·
    rw[if_pos hp,if_pos hp]
    cases n
    ·
     exact ihx σ K G
    ·
     exact ihy σ K G
   ·
    rw[if_neg hp,if_neg hp]
    cases n
    ·
     exact ihy σ K G
    ·
     exact ihx σ K G
  ·
   rfl
 | block id c ih =>
  intro β δ σ K G
  simp only[denC]
  rw[←ih,ZiN]
 | loop c ih =>
  intro β δ σ K G
  simp only[denC]
  cases loopR (fun s=>denC E c s (backK E (rid c))) (nrm E (rid c) σ) <;> rfl
 | exit id=>intro β δ σ K G;simp only[denC]
 | ret=>intro β δ σ K G;simp only[denC]
 | _=>intro β δ σ K G;simp[denC]
theorem Zgy (E:Env) (c:Code) {β : Type} (σ : St) (K:Ex→St→Option β):denC E c σ K=(denC E c σ fun e s=>some (e,s)).bind fun p=>K p.1 p.2:=by
 rw[←ZiZ]
 rfl
section
variable {f:St→Option (Ex×St)}
theorem Ze3:∀{n m:Nat} {σ : St} {p:Ex×St},iter f n σ = some p→n≤m→iter f m σ = some p
 | 0,_,_,_,h,_=>by cases h
 | n+1,0,_,_,_,h=>absurd h (Nat.not_succ_le_zero n)
 | n+1,m+1,σ,p,h,hm=>by
  unfold iter at h ⊢
  split
  ·
   rename_i s hs
   rw[hs]at h
   exact Ze3 h (Nat.le_of_succ_le_succ hm)
  ·
   rename_i r hr
   split at h
   ·
    rename_i s hs
    exact absurd hs (fun hs=>hr s hs)
   ·
    exact h
theorem Zeh {n:Nat} {σ : St} {p:Ex×St} (h:iter f n σ = some p):loopR f σ = some p:=by
 have hx:∃n,(iter f n σ).isSome=true:=⟨n,by rw[h];rfl⟩
 unfold loopR
 rw[dif_pos hx]
 have hc:=Classical.choose_spec hx
 generalize Classical.choose hx=m at hc ⊢
 cases hm:iter f m σ with
 | none=>rw[hm]at hc;cases hc
 | some q =>
  have h1:=Ze3 h (Nat.le_max_left n m)
  have h2:=Ze3 hm (Nat.le_max_right n m)
  rw[h1]at h2
  exact h2.symm
theorem ZfE {σ : St} {p:Ex×St} (h:loopR f σ = some p):∃n,iter f n σ = some p:=by
 unfold loopR at h
 split at h
 ·
  exact⟨_,h⟩
 ·
  cases h
def back (f:St→Option (Ex×St)) (g:St→Option (Ex×St)):Option (Ex×St)→Option (Ex×St)
 | some (.normal,s)=>g s
 | r=>r
theorem Zih (σ : St):loopR f σ = back f (loopR f) (f σ):=by
 cases hl:back f (loopR f) (f σ)with
 | none =>
  cases hr:loopR f σ with
  | none=>rfl
  | some p =>
   obtain⟨n,hn⟩:=ZfE hr
   exfalso
   cases n with
   | zero=>cases hn
   | succ n =>
    unfold iter at hn
    unfold back at hl
    split at hn
    ·
     rename_i s hs
     rw[hs]at hl
     have:=Zeh hn
     simp only at hl
     rw[this]at hl;cases hl
    ·
     rename_i r hr'
     split at hl
     ·
      rename_i s hs;exact hr' s hs
     ·
      rw[hl]at hn;cases hn
 | some p =>
  unfold back at hl
  split at hl
  ·
   rename_i s hs
   obtain⟨n,hn⟩:=ZfE hl
   exact Zeh (n:=n+1) (by unfold iter;rw[hs];exact hn)
  ·
   rename_i r hr
   refine Zeh (n:=1) ?_
   unfold iter
   split
   ·
    rename_i s hs;exact absurd hs (hr s)
   ·
    exact hl
end
theorem Zy (E:Env) (c:Code) {β : Type} (s:St) (K:Ex→St→Option β):denC E (.loop c) s K=denC E c (nrm E (rid c) s) (seqK (fun s=>denC E (.loop c) s K) K):=by
 have h1:∀s,denC E (.loop c) s K=(loopR (fun s=>denC E c s (backK E (rid c))) (nrm E (rid c) s)).bind fun p=>K p.1 p.2:=fun s=>by simp only[denC]
 rw[h1,Zih,Zgy E c (nrm E (rid c) s) (seqK (fun s=>denC E (.loop c) s K) K),Zgy E c (nrm E (rid c) s) (backK E (rid c))]
 cases denC E c (nrm E (rid c) s) (fun e s=>some (e,s))with
 | none=>rfl
 | some p =>
  obtain⟨e,s'⟩:=p
  cases e with
  | normal=>exact(h1 s').symm
  | exit i=>rfl
  | ret=>rfl
end Go.Proofs.YtoljodiflhbohaaGreatDoor.D
namespace Go.Proofs.YtoljodiflhbohaaGreatDoor.D
open Go Go.RowKit
def rd (xs:List Int) (i:Int):Int:=xs.getD i.toNat 0
def row (xs:List (List Int)) (i:Int):List Int:=xs.getD i.toNat []
def T (g:List (List Int)) (a b:Int):Int:=rd (row g a) b
section
variable {P:Program} {t:TypeId}
def stOf:TypeDesc→Option (Array Field)
 | .struct f=>some f
 | _=>none
theorem ZhX {fs:List (Nat×TypeId)} (h1:((P.underlying t).bind stOf).map (fun fields=>fields.toList.map fun f=>(f.offset,f.type))=some fs) (h2:(((P.underlying t).bind stOf).bind fun fields=>fields.toList.mapM fun f=>(P.info? f.type).map fun i=>(f.offset,i.size)).isSome=true):ZiE P t (.st fs):=by
 cases hu:P.underlying t with
 | none=>rw[hu]at h1;cases h1
 | some d =>
  rw[hu]at h1 h2
  cases d <;> first|(cases h1;done)|skip
  rename_i fields
  simp only[Option.bind_some,stOf,Option.map_some,Option.some.injEq]at h1 h2
  cases hm:fields.toList.mapM fun f=>(P.info? f.type).map fun i=>(f.offset,i.size)with
  | none=>rw[hm]at h2;cases h2
  | some places=>exact⟨fields,hu,h1,places,hm⟩
theorem tiMk {k:TK} {size bytes:Nat} {zero:List Lf} {ty:Ty} (hk:ZiE P t k) (h1:(P.info? t).map (fun i=>(i.size,i.bytes))=some (size,bytes)) (h2:((P.info? t).bind (·.zero)).bind (fun z=>Zdz z.cells.toList)=some zero) (h3:((P.info? t).bind (·.zero)).map (fun z=>z.cells.toList)=some (zcells ty)):TiOk P t ⟨k,size,bytes,zero,ty,true⟩:=by
 refine⟨hk,?_⟩
 cases hi:P.info? t with
 | none=>rw[hi]at h1;cases h1
 | some i =>
  rw[hi]at h1 h2 h3
  simp only[Option.map_some,Option.some.injEq,Prod.mk.injEq]at h1
  refine⟨i,rfl,h1.1,h1.2,fun _ _ => ?_⟩
  cases hz:i.zero with
  | none=>simp[hz]at h2
  | some z =>
   simp only[Option.bind_some,hz,Option.map_some,Option.some.injEq]at h2 h3
   exact⟨z,rfl,h2,fun _=>h3⟩
theorem ttNil:TtOk P []:=fun _ _ h=>by cases h
theorem Zcm {i:TI} {r:List (Nat×TI)} (h:TiOk P t i) (hr:TtOk P r):TtOk P ((t,i) :: r):=fun u j hj=>by
 by_cases e:u=t
 ·
  subst e
  simp[lk]at hj
  subst hj
  exact h
 ·
  simp[lk,ZbO e]at hj
  exact hr u j hj
theorem Zaq:Zdb P []:=fun _ _ h=>by cases h
theorem Zf {g:FuncId} {c:Con} {r:List (Nat×Con)} (h:Valid P g c) (hr:Zdb P r):Zdb P ((g,c) :: r):=fun u j hj=>by
 by_cases e:u=g
 ·
  subst e
  simp[lk]at hj
  subst hj
  exact h
 ·
  simp[lk,ZbO e]at hj
  exact hr u j hj
end
end Go.Proofs.YtoljodiflhbohaaGreatDoor.D
namespace Go.Proofs.YtoljodiflhbohaaGreatDoor.P
open Go Go.RowKit Go.Proofs.YtoljodiflhbohaaGreatDoor.D
theorem ti2:TiOk Tryz.prog 2 ⟨.int .i64,1,8,[.int .i64 0],(.int .i64),true⟩:=tiMk (show Tryz.prog.underlying 2=some (.int .i64)by kernel_rfl) (by kernel_rfl) (by kernel_rfl) (by kernel_rfl)
theorem ti3:TiOk Tryz.prog 3 ⟨.int .i64,1,8,[.int .i64 0],(.int .i64),true⟩:=tiMk (show Tryz.prog.underlying 3=some (.int .i64)by kernel_rfl) (by kernel_rfl) (by kernel_rfl) (by kernel_rfl)
theorem ti4:TiOk Tryz.prog 4 ⟨.bool,1,1,[fls],.bool,true⟩:=tiMk (show Tryz.prog.underlying 4=some .bool by kernel_rfl) (by kernel_rfl) (by kernel_rfl) (by kernel_rfl)
theorem ti5:TiOk Tryz.prog 5 ⟨.int .u8,1,1,[.int .u8 0],(.int .u8),true⟩:=tiMk (show Tryz.prog.underlying 5=some (.int .u8)by kernel_rfl) (by kernel_rfl) (by kernel_rfl) (by kernel_rfl)
theorem ti9:TiOk Tryz.prog 9 ⟨.str,1,16,[.str ByteArray.empty],.str,true⟩:=tiMk (show Tryz.prog.underlying 9=some .string by kernel_rfl) (by kernel_rfl) (by kernel_rfl) (by kernel_rfl)
theorem ti22:TiOk Tryz.prog 22 ⟨.sl 5,1,24,[.nil],(.sl 5 (.int .u8)),true⟩:=tiMk (show Tryz.prog.underlying 22=some (.slice 5)by kernel_rfl) (by kernel_rfl) (by kernel_rfl) (by kernel_rfl)
theorem ti24:TiOk Tryz.prog 24 ⟨.sl 27,1,24,[.nil],(.sl 27 (.sl 2 (.int .i64))),true⟩:=tiMk (show Tryz.prog.underlying 24=some (.slice 27)by kernel_rfl) (by kernel_rfl) (by kernel_rfl) (by kernel_rfl)
theorem ti26:TiOk Tryz.prog 26 ⟨.st [(0,24)],1,24,[.nil],(.sl 27 (.sl 2 (.int .i64))),true⟩:=tiMk (ZhX (by kernel_rfl) (by kernel_rfl)) (by kernel_rfl) (by kernel_rfl) (by kernel_rfl)
theorem ti27:TiOk Tryz.prog 27 ⟨.sl 2,1,24,[.nil],(.sl 2 (.int .i64)),true⟩:=tiMk (show Tryz.prog.underlying 27=some (.slice 2)by kernel_rfl) (by kernel_rfl) (by kernel_rfl) (by kernel_rfl)
theorem ti29:TiOk Tryz.prog 29 ⟨.st [(0,2),(1,27)],2,32,[.int .i64 0,.nil],(.pr (.int .i64) (.sl 2 (.int .i64))),true⟩:=tiMk (ZhX (by kernel_rfl) (by kernel_rfl)) (by kernel_rfl) (by kernel_rfl) (by kernel_rfl)
theorem ti31:TiOk Tryz.prog 31 ⟨.st [(0,2),(1,27)],2,32,[.int .i64 0,.nil],(.pr (.int .i64) (.sl 2 (.int .i64))),true⟩:=tiMk (ZhX (by kernel_rfl) (by kernel_rfl)) (by kernel_rfl) (by kernel_rfl) (by kernel_rfl)
theorem ti100:TiOk Tryz.prog 100 ⟨.int .u64,1,8,[.int .u64 0],(.int .u64),true⟩:=tiMk (show Tryz.prog.underlying 100=some (.int .u64)by kernel_rfl) (by kernel_rfl) (by kernel_rfl) (by kernel_rfl)
theorem ti102:TiOk Tryz.prog 102 ⟨.st [(0,22),(1,3),(2,100)],3,40,[.nil,.int .i64 0,.int .u64 0],(.pr (.sl 5 (.int .u8)) (.pr (.int .i64) (.int .u64))),true⟩:=tiMk (ZhX (by kernel_rfl) (by kernel_rfl)) (by kernel_rfl) (by kernel_rfl) (by kernel_rfl)
theorem ti104:TiOk Tryz.prog 104 ⟨.int .u64,1,8,[.int .u64 0],(.int .u64),true⟩:=tiMk (show Tryz.prog.underlying 104=some (.int .u64)by kernel_rfl) (by kernel_rfl) (by kernel_rfl) (by kernel_rfl)
theorem ti105:TiOk Tryz.prog 105 ⟨.sl 29,1,24,[.nil],(.sl 29 (.pr (.int .i64) (.sl 2 (.int .i64)))),true⟩:=tiMk (show Tryz.prog.underlying 105=some (.slice 29)by kernel_rfl) (by kernel_rfl) (by kernel_rfl) (by kernel_rfl)
theorem ti112:TiOk Tryz.prog 112 ⟨.sl 31,1,24,[.nil],(.sl 31 (.pr (.int .i64) (.sl 2 (.int .i64)))),true⟩:=tiMk (show Tryz.prog.underlying 112=some (.slice 31)by kernel_rfl) (by kernel_rfl) (by kernel_rfl) (by kernel_rfl)
theorem ti115:TiOk Tryz.prog 115 ⟨.sl 9,1,24,[.nil],(.sl 9 .str),true⟩:=tiMk (show Tryz.prog.underlying 115=some (.slice 9)by kernel_rfl) (by kernel_rfl) (by kernel_rfl) (by kernel_rfl)
theorem ti120:TiOk Tryz.prog 120 ⟨.sl 26,1,24,[.nil],(.sl 26 (.sl 27 (.sl 2 (.int .i64)))),true⟩:=tiMk (show Tryz.prog.underlying 120=some (.slice 26)by kernel_rfl) (by kernel_rfl) (by kernel_rfl) (by kernel_rfl)
theorem ti156:TiOk Tryz.prog 156 ⟨.int .u32,1,4,[.int .u32 0],(.int .u32),true⟩:=tiMk (show Tryz.prog.underlying 156=some (.int .u32)by kernel_rfl) (by kernel_rfl) (by kernel_rfl) (by kernel_rfl)
noncomputable def TT:List (Nat×TI):=[(2,⟨.int .i64,1,8,[.int .i64 0],(.int .i64),true⟩),(3,⟨.int .i64,1,8,[.int .i64 0],(.int .i64),true⟩),(4,⟨.bool,1,1,[fls],.bool,true⟩),(5,⟨.int .u8,1,1,[.int .u8 0],(.int .u8),true⟩),(9,⟨.str,1,16,[.str ByteArray.empty],.str,true⟩),(22,⟨.sl 5,1,24,[.nil],(.sl 5 (.int .u8)),true⟩),(24,⟨.sl 27,1,24,[.nil],(.sl 27 (.sl 2 (.int .i64))),true⟩),(26,⟨.st [(0,24)],1,24,[.nil],(.sl 27 (.sl 2 (.int .i64))),true⟩),(27,⟨.sl 2,1,24,[.nil],(.sl 2 (.int .i64)),true⟩),(29,⟨.st [(0,2),(1,27)],2,32,[.int .i64 0,.nil],(.pr (.int .i64) (.sl 2 (.int .i64))),true⟩),(31,⟨.st [(0,2),(1,27)],2,32,[.int .i64 0,.nil],(.pr (.int .i64) (.sl 2 (.int .i64))),true⟩),(100,⟨.int .u64,1,8,[.int .u64 0],(.int .u64),true⟩),(102,⟨.st [(0,22),(1,3),(2,100)],3,40,[.nil,.int .i64 0,.int .u64 0],(.pr (.sl 5 (.int .u8)) (.pr (.int .i64) (.int .u64))),true⟩),(104,⟨.int .u64,1,8,[.int .u64 0],(.int .u64),true⟩),(105,⟨.sl 29,1,24,[.nil],(.sl 29 (.pr (.int .i64) (.sl 2 (.int .i64)))),true⟩),(112,⟨.sl 31,1,24,[.nil],(.sl 31 (.pr (.int .i64) (.sl 2 (.int .i64)))),true⟩),(115,⟨.sl 9,1,24,[.nil],(.sl 9 .str),true⟩),(120,⟨.sl 26,1,24,[.nil],(.sl 26 (.sl 27 (.sl 2 (.int .i64)))),true⟩),(156,⟨.int .u32,1,4,[.int .u32 0],(.int .u32),true⟩)]
theorem ttOk:TtOk Tryz.prog TT:=(Zcm ti2 (Zcm ti3 (Zcm ti4 (Zcm ti5 (Zcm ti9 (Zcm ti22 (Zcm ti24 (Zcm ti26 (Zcm ti27 (Zcm ti29 (Zcm ti31 (Zcm ti100 (Zcm ti102 (Zcm ti104 (Zcm ti105 (Zcm ti112 (Zcm ti115 (Zcm ti120 (Zcm ti156 ttNil)))))))))))))))))))
theorem fnV (f:D.Fn) (E:Env) {R:Type} (enc:lsd (flats f.outs)×lsd (ios f.ins)→R) {g:FuncId} {fn:Func} {dec:R→lsd (flats f.outs)×lsd (ios f.ins)} (hE:EnvOk Tryz.prog E) (h:Tryz.prog.funcs[g]? = some fn) (h1:fn.body=some f.body:=by kernel_rfl)
  (h2 : (fn.name == "runtime.NumGoroutine") = false := by kernel_rfl)
  (h3:fn.results.toList=f.res:=by kernel_rfl) (h4:fn.ntmps=E.n:=by kernel_rfl) (h5:f.ins.length≤E.n:=by decide) (h6:roOk f.ins=true:=by kernel_rfl) (h7:(ZbV f.ins 0).all (fun T=>Nat.blt T E.pin)=true:=by kernel_rfl) (h8:∀y,dec (enc y)=y:=by exact fun _=>rfl):Valid Tryz.prog g ⟨f.ins,f.outs,R,denF E f enc,dec⟩:=ZdY hE (Checked.mixed Tryz.checked) ⟨h,h1,h2,h3,h4,h5,h6,h7⟩ h8
end Go.Proofs.YtoljodiflhbohaaGreatDoor.P
set_option maxRecDepth 100000
namespace Go.Proofs.YtoljodiflhbohaaGreatDoor.P
open Go Go.RowKit Go.Proofs.YtoljodiflhbohaaGreatDoor.D
noncomputable def ZbB.E:Env:={ tt:=TT,con:=[],frz:=[],rows:=[],live:=[],n:=6,pin:=0,nils:=[] }
noncomputable def ZbB.fn:D.Fn:={ body:=Tryz.f4.body.getD .skip,res:=Tryz.f4.results.toList,ins:=[.one (.v (.sl 5 (.int .u8)))],outs:=[.one (.v .bool)] }
def ZbB.enc (y:lsd (flats ZbB.fn.outs)×lsd (ios ZbB.fn.ins)):Bool:=y.1.1
noncomputable def ZbB.f (l0:List Int):Option Bool:=denF ZbB.E ZbB.fn ZbB.enc (l0,())
theorem ZbB.f_eq (l0:List Int):ZbB.f l0=some (decide ((l0.length:Int) > 4096)):=by kernel_rfl
noncomputable def ZbB.con:Con:=⟨ZbB.fn.ins,ZbB.fn.outs,Bool,fun x=>ZbB.f x.1,fun r=>((r,()),(()))⟩
theorem ZbB.valid:Valid Tryz.prog 4 ZbB.con:=fnV ZbB.fn ZbB.E ZbB.enc ⟨ttOk,Zaq⟩ Tryz.func4
end Go.Proofs.YtoljodiflhbohaaGreatDoor.P
namespace Go.Proofs.YtoljodiflhbohaaGreatDoor.P
open Go Go.RowKit Go.Proofs.YtoljodiflhbohaaGreatDoor.D
noncomputable def Zaa.E:Env:={ tt:=TT,con:=[],frz:=[],rows:=[],live:=[(3,[0,3,4])],n:=38,pin:=0,nils:=[] }
noncomputable def Zaa.fn:D.Fn:={ body:=Tryz.f26.body.getD .skip,res:=Tryz.f26.results.toList,ins:=[.one (.v (.sl 5 (.int .u8)))],outs:=[.ptr false 102 [.v (.sl 5 (.int .u8)),.v (.int .i64),.v (.int .u64)]] }
def Zaa.enc (y:lsd (flats Zaa.fn.outs)×lsd (ios Zaa.fn.ins)):(List Int)×Int×Int:=(y.1.1,y.1.2.1,y.1.2.2.1)
noncomputable def Zaa.f (l0:List Int):Option ((List Int)×Int×Int):=denF Zaa.E Zaa.fn Zaa.enc (l0,())
noncomputable def Zaa.l0 (x0:List Int) (x4:Int) (b0_0:List Int) (b0_1:Int) (b0_2:Int):Option ((List Int)×Int×Int):=denAt Zaa.E Zaa.fn Zaa.enc [1,1,0,1,0] { fr:=[(0,.lf (.sl (.int .u8) x0)),(3,.lf (.box 0 0)),(4,.lf (.int .i64 x4))],ob:=[(0,.box 102 false [.sl (.int .u8) b0_0,.int .i64 b0_1,.int .u64 b0_2])],nx:=1 }
theorem Zaa.f_eq (l0:List Int):Zaa.f l0=Zaa.l0 l0 0 l0 0 (wr .u64 (13631+(wr .u64 (l0.length:Int)))):=by kernel_rfl
theorem Zaa.l0_eq (x0:List Int) (x4:Int) (b0_0:List Int) (b0_1:Int) (b0_2:Int):Zaa.l0 x0 x4 b0_0 b0_1 b0_2=if x4 < (x0.length:Int)then(if x4 < 4096 then(if 0≤x4 then(if x4 < (x0.length:Int)then(Zaa.l0 x0 (wrapI (x4+1)) b0_0 b0_1 (wr .u64 ((wr .u64 ((wr .u64 (b0_2*1099511628211))+(wr .u64 (rd x0 x4))))+197)))else none)else none)else(some (b0_0,b0_1,b0_2)))else(some (b0_0,b0_1,b0_2)):=(Zy _ _ _ _).trans (by kernel_rfl)
noncomputable def Zaa.con:Con:=⟨Zaa.fn.ins,Zaa.fn.outs,(List Int)×Int×Int,fun x=>Zaa.f x.1,fun r=>((r.1,r.2.1,r.2.2,()),(()))⟩
theorem Zaa.valid:Valid Tryz.prog 26 Zaa.con:=fnV Zaa.fn Zaa.E Zaa.enc ⟨ttOk,Zaq⟩ Tryz.func26
end Go.Proofs.YtoljodiflhbohaaGreatDoor.P
namespace Go.Proofs.YtoljodiflhbohaaGreatDoor.P
open Go Go.RowKit Go.Proofs.YtoljodiflhbohaaGreatDoor.D
noncomputable def Zr.E:Env:={ tt:=TT,con:=[],frz:=[],rows:=[],live:=[],n:=58,pin:=1,nils:=[] }
noncomputable def Zr.fn:D.Fn:={ body:=Tryz.f28.body.getD .skip,res:=Tryz.f28.results.toList,ins:=[.ptr false 102 [.v (.sl 5 (.int .u8)),.v (.int .i64),.v (.int .u64)],.one (.v (.int .i64))],outs:=[.one (.v (.int .i64))] }
def Zr.enc (y:lsd (flats Zr.fn.outs)×lsd (ios Zr.fn.ins)):Int×(List Int)×Int×Int:=(y.1.1,y.2.1,y.2.2.1,y.2.2.2.1)
noncomputable def Zr.f (l0_0:List Int) (a0_1:Int) (a0_2:Int) (a1:Int):Option (Int×(List Int)×Int×Int):=denF Zr.E Zr.fn Zr.enc (l0_0,a0_1,a0_2,a1,())
theorem Zr.f_eq (l0_0:List Int) (a0_1:Int) (a0_2:Int) (a1:Int):Zr.f l0_0 a0_1 a0_2 a1=if a1 < 1 then(some (0,l0_0,a0_1,a0_2))else(if a0_1 < (l0_0.length:Int)then(if 0≤a0_1 then(if a0_1 < (l0_0.length:Int)then(if a1=0 then none else(some ((wrapI ((wrapI (andI .u64 (shrI .u64 (wr .u64 ((wr .u64 (a0_2*6364136223846793005))+1442695040888963407)) 33) 16777215))+(wrapI (rd l0_0 a0_1))):Int).tmod a1,l0_0,wrapI (a0_1+1),wr .u64 ((wr .u64 (a0_2*6364136223846793005))+1442695040888963407))))else none)else none)else(if a1=0 then none else(some ((wrapI (andI .u64 (shrI .u64 (wr .u64 ((wr .u64 (a0_2*6364136223846793005))+1442695040888963407)) 33) 16777215):Int).tmod a1,l0_0,a0_1,wr .u64 ((wr .u64 (a0_2*6364136223846793005))+1442695040888963407))))):=by kernel_rfl
noncomputable def Zr.con:Con:=⟨Zr.fn.ins,Zr.fn.outs,Int×(List Int)×Int×Int,fun x=>Zr.f x.1 x.2.1 x.2.2.1 x.2.2.2.1,fun r=>((r.1,()),(r.2.1,r.2.2.1,r.2.2.2,()))⟩
theorem Zr.valid:Valid Tryz.prog 28 Zr.con:=fnV Zr.fn Zr.E Zr.enc ⟨ttOk,Zaq⟩ Tryz.func28
end Go.Proofs.YtoljodiflhbohaaGreatDoor.P
namespace Go.Proofs.YtoljodiflhbohaaGreatDoor.P
open Go Go.RowKit Go.Proofs.YtoljodiflhbohaaGreatDoor.D
noncomputable def Zah.E:Env:={ tt:=TT,con:=[],frz:=[],rows:=[],live:=[],n:=6,pin:=0,nils:=[] }
noncomputable def Zah.fn:D.Fn:={ body:=Tryz.f50.body.getD .skip,res:=Tryz.f50.results.toList,ins:=[.one (.v (.sl 2 (.int .i64)))],outs:=[.one (.own 2 true (.int .i64))] }
def Zah.enc (y:lsd (flats Zah.fn.outs)×lsd (ios Zah.fn.ins)):(List Int):=y.1.1
noncomputable def Zah.f (l0:List Int):Option (List Int):=denF Zah.E Zah.fn Zah.enc (l0,())
theorem Zah.f_eq (l0:List Int):Zah.f l0=if([]:List Int).length+l0.length≤17592186044416 then(some (([]:List Int)++l0))else none:=by kernel_rfl
noncomputable def Zah.con:Con:=⟨Zah.fn.ins,Zah.fn.outs,(List Int),fun x=>Zah.f x.1,fun r=>((r,()),(()))⟩
theorem Zah.valid:Valid Tryz.prog 50 Zah.con:=fnV Zah.fn Zah.E Zah.enc ⟨ttOk,Zaq⟩ Tryz.func50
end Go.Proofs.YtoljodiflhbohaaGreatDoor.P
namespace Go.Proofs.YtoljodiflhbohaaGreatDoor.P
open Go Go.RowKit Go.Proofs.YtoljodiflhbohaaGreatDoor.D
noncomputable def ZaS.E:Env:={ tt:=TT,con:=[],frz:=[],rows:=[],live:=[(1,[0,1])],n:=17,pin:=0,nils:=[] }
noncomputable def ZaS.fn:D.Fn:={ body:=Tryz.f118.body.getD .skip,res:=Tryz.f118.results.toList,ins:=[.one (.v (.int .i64)),.one (.v (.int .i64))],outs:=[.one (.v (.int .i64))] }
def ZaS.enc (y:lsd (flats ZaS.fn.outs)×lsd (ios ZaS.fn.ins)):Int:=y.1.1
noncomputable def ZaS.f (a0:Int) (a1:Int):Option Int:=denF ZaS.E ZaS.fn ZaS.enc (a0,a1,())
noncomputable def ZaS.l0 (x0:Int) (x1:Int):Option Int:=denAt ZaS.E ZaS.fn ZaS.enc [1,0,0] { fr:=[(0,.lf (.int .i64 x0)),(1,.lf (.int .i64 x1))],ob:=[],nx:=0 }
theorem ZaS.f_eq (a0:Int) (a1:Int):ZaS.f a0 a1=ZaS.l0 a0 a1:=by kernel_rfl
theorem ZaS.l0_eq (x0:Int) (x1:Int):ZaS.l0 x0 x1=if x1=0 then(some (if(wrapI (0 - x0)) > x0 then(wrapI (0 - x0))else x0))else(if x1=0 then none else(ZaS.l0 x1 ((x0:Int).tmod x1))):=(Zy _ _ _ _).trans (by kernel_rfl)
noncomputable def ZaS.con:Con:=⟨ZaS.fn.ins,ZaS.fn.outs,Int,fun x=>ZaS.f x.1 x.2.1,fun r=>((r,()),(()))⟩
theorem ZaS.valid:Valid Tryz.prog 118 ZaS.con:=fnV ZaS.fn ZaS.E ZaS.enc ⟨ttOk,Zaq⟩ Tryz.func118
end Go.Proofs.YtoljodiflhbohaaGreatDoor.P
namespace Go.Proofs.YtoljodiflhbohaaGreatDoor.D
open Go Go.RowKit
theorem Zix {P:Program} {g:FuncId} {c:Con} (hv:Valid P g c) {x:lsd (flats c.ins)} {r:c.R} (hx:c.f x=some r) {w:World} {vs:List Value} (ha:ASRs P (fun _=>False) (fun k=>k < w.heap.size) w c.ins x vs (fun _=>False)) :
  Calls P g vs.toArray w fun e w' => ∃u,e = .returned u∧Below w.heap.size w w' ∧ ∃Z' Fo us,u=outV us∧ASRs P (fun _=>False) Z' w' c.outs (c.dec r).1 us Fo:=by
 refine(hv.2 x r hx (fun k=>k < w.heap.size) (fun _=>False) (fun _=>False) w vs ha (fun _ h=>h.elim) (fun _ h=>h) (fun _ h=>h.elim)).mono ?_
 rintro e w' ⟨u,rfl,Z', Fi,Fo,hp⟩
 obtain⟨us,hu,ho⟩:=hp.out
 exact⟨u,rfl,⟨hp.os,hp.tape,hp.output,hp.size,fun k hk=>hp.old k hk fun h=>h⟩,Z', Fo,us,hu,ho⟩
theorem ZiR {w:World} {a:Addr} {v:Value} (h:w.cell? a=some v):a.block < w.heap.size:=by
 unfold World.cell? at h
 cases hb:w.heap[a.block]? with
 | none=>rw[hb]at h;cases h
 | some o=>exact(Array.getElem?_eq_some_iff.1 hb).1
theorem Zkv {α : Type} {w:World} {sz:Nat} {R : α → List Value→Prop} {A:Option Addr} {c:Nat} {xs:List α} (hz:0 < sz) (hc:xs.length≤c) (hm:xs.length≤9223372036854775807)
  (h:0 < xs.length→∃ad,A=some ad∧∀(j:Nat) (p : α),xs[j]? = some p→∃cs,cs.length=sz∧R p cs∧∀(i:Nat) (u:Value),cs[i]? = some u→w.cell? (ad.add (j*sz+i))=some u):ZcZ (fun k=>k < w.heap.size) w sz R A c xs:=by
 refine⟨hc,hm,fun hl => ?_⟩
 obtain⟨ad,rfl,hcell⟩:=h hl
 refine⟨ad,rfl,?_,hcell⟩
 obtain⟨cs,h1,h2,h3⟩:=hcell 0 xs[0] (List.getElem?_eq_getElem hl)
 have:=ZiR (h3 0 cs[0] (List.getElem?_eq_getElem (by omega)))
 rwa[Zdh]at this
theorem Zkb {P:Program} {g:FuncId} {c:Con} (hv:Valid P g c) {x:lsd (flats c.ins)} {r:c.R} (hx:c.f x=some r) {w:World} {vs:List Value} (ha:ASRs P (fun _=>False) (fun k=>k < w.heap.size) w c.ins x vs (fun _=>False)) (ho:c.outs=[.one (.v .bool)]) (hr:∀y:lsd (flats [.one (.v .bool)]),HEq y (c.dec r).1→y.1=true) :
  Calls P g vs.toArray w fun e w' => e = .returned (.bool true)∧Below w.heap.size w w' := by
 refine(Zix hv hx ha).mono ?_
 rintro e w' ⟨u,rfl,hb,Z', Fo,us,rfl,hh⟩
 refine⟨?_,hb⟩
 obtain⟨ins,outs,R,f,dec⟩:=c
 have ho:outs=[.one (.v .bool)]:=ho
 subst ho
 obtain⟨v,vs', F0,F1,rfl,h1,h2,_⟩:=hh
 cases h2
 have h1:[v]=[.bool (dec r).1.1]:=h1
 have hb1:(dec r).1.1=true:=hr _ HEq.rfl
 cases h1
 rw[hb1]
 rfl
end Go.Proofs.YtoljodiflhbohaaGreatDoor.D
namespace Go.Proofs.YtoljodiflhbohaaGreatDoor.D
open Go Go.RowKit Go.ChangeShapes Go.WideShapes Go.Joins Go.Deep
section
variable {H:Type} {enc:TypeId×Value→H} {P:Program} {w:World} {base:Nat} {held:Bool}
abbrev Zw (w:World):Nat→Prop:=fun k=>k < w.heap.size
abbrev No:Nat→Prop:=fun _=>False
theorem Zkm {q:TypeId} (hn:nf q=false) {k:IntKind} {a:Addr} {len cap:Nat} {zs:List Int} (hl:len≤cap) (hm:cap≤maxLen) (hz:zs.length=cap) (hc:∀i,i < zs.length→w.cell? (a.add i)=some (.int k (zs.getD i 0))) (hw:∀n∈zs,(Lit.int k n).wf=true) :
  ∃l:List Int,len=l.length∧l.length≤maxLen∧(∀x∈l,(Lit.int k x).wf=true)∧Rep (Zw w) w false (.sl q (.int k)) l [.slice (some a) len cap] No:=by
 have hlen:(zs.take len).length=len:=by rw[List.length_take];omega
 refine⟨zs.take len,hlen.symm,by omega,fun x hx=>hw x (List.mem_of_mem_take hx),some a,cap,by rw[hlen],?_,fun h=>by rw[hn]at h;cases h⟩
 refine Zkv Nat.one_pos (by show(zs.take len).length≤_;omega) (by show(zs.take len).length≤_;simp only[maxLen]at hm;omega) fun _=>⟨a,rfl,fun j p hj => ?_⟩
 have hj:(zs.take len)[j]? = some p:=hj
 have hjl:j < len:=by
  have:=(List.getElem?_eq_some_iff.1 hj).1
  omega
 refine⟨[.int k p],rfl,rfl,fun i u hu => ?_⟩
 cases i with
 | zero =>
  simp only[List.getElem?_cons_zero,Option.some.injEq]at hu
  subst hu
  have h:=hc j (by omega)
  have hp:zs.getD j 0=p:=by
   rw[List.getElem?_take]at hj
   simp only[hjl,if_true]at hj
   simp[List.getD,hj]
  rw[hp]at h
  simpa [Ty.size] using h
 | succ i=>simp at hu
theorem Zkn {q:TypeId} {t:Ty}:Rep (Zw w) w false (.sl q t) ([]:List t.den) [.slice none 0 0] No :=
 ⟨none,0,rfl,⟨Nat.le_refl _,Nat.zero_le _,fun h=>absurd h (by simp)⟩,fun _ _=>rfl⟩
theorem ZiV {t e:TypeId} {k:IntKind} {fuel:Nat} {v:Value} {x:DataW H×List MemPlace} (ht:P.underlying t=some (.slice e)) (he:P.underlying e=some (.int k)) (hc:P.cellsOf e=1)
  (h:DataW.trod enc P w base (fun _=>true) held fuel t [v]=some x) (hn:nf e=false:=by rfl) :
  ∃l:List Int,l.length≤maxLen∧(∀x∈l,(Lit.int k x).wf=true)∧Rep (Zw w) w false (.sl e (.int k)) l [v] No:=by
 rcases open_ints ht he hc h with ⟨hcs,_⟩|⟨a,len,cap,zs,hcs,_,hl,hm,hz,_,hcell,hw⟩
 ·
  refine⟨[],by simp,by simp,?_⟩
  rw[hcs]
  exact Zkn
 ·
  simp only[if_true]at hz
  obtain⟨l,h1,h2,h3,h4⟩:=Zkm (q:=e) hn hl hm hz hcell hw
  exact⟨l,h2,h3,by rw[hcs];exact h4⟩
theorem ZjY:ASRs P No (Zw w) w [] () [] No:=rfl
theorem ZjZ {t:Ty} {x:t.den} {v:Value} {ins:List ASh} {y:lsd (flats ins)} {vs:List Value} (h:Rep (Zw w) w false t x [v] No) (hr:ASRs P No (Zw w) w ins y vs No):ASRs P No (Zw w) w (.one (.v t) :: ins) (x,y) (v :: vs) No :=
 ⟨v,vs,No,No,rfl,h,hr,fun _ h=>h,fun _ h=>h,fun _ h=>h.elim⟩
end
end Go.Proofs.YtoljodiflhbohaaGreatDoor.D
namespace Go.Proofs.YtoljodiflhbohaaGreatDoor.D
open Go Go.RowKit
end Go.Proofs.YtoljodiflhbohaaGreatDoor.D
namespace Go.Proofs.YtoljodiflhbohaaGreatDoor.D
open Go Go.RowKit
end Go.Proofs.YtoljodiflhbohaaGreatDoor.D
namespace Go.Proofs.YtoljodiflhbohaaGreatDoor.D
noncomputable def fuel:Nat:=Classical.choose (⟨64,rfl⟩:∃n,n=64)
theorem Zf2:fuel=64:=Classical.choose_spec (⟨64,rfl⟩:∃n,n=64)
theorem ZdD {P:Go.Program} {g:Go.FuncId} (hc:Callable P g) {ins outs:List ASh} {R:Type} {dec:R→lsd (flats outs)×lsd (ios ins)}:Valid P g ⟨ins,outs,R,fun _=>none,dec⟩:=⟨hc,fun x r h=>by cases h⟩
end Go.Proofs.YtoljodiflhbohaaGreatDoor.D
namespace Go.Proofs.YtoljodiflhbohaaGreatDoor.P
open Go Go.RowKit Go.Proofs.YtoljodiflhbohaaGreatDoor.D
noncomputable def ZB.E (c:Con):Env:={ tt:=TT,con:=[(112,c),(50,Zah.con),(118,ZaS.con)],frz:=[64,91],rows:=[66],live:=[(3,[1,2,3,4,9,10]),(6,[1,2,3,4,9,10,11]),(14,[1,2,3,4,9,13])],n:=95,pin:=0,nils:=[] }
noncomputable def ZB.fn:D.Fn:={ body:=Tryz.f112.body.getD .skip,res:=Tryz.f112.results.toList,ins:=[.agg [.v (.sl 27 (.sl 2 (.int .i64)))],.one (.v (.int .i64)),.one (.v (.sl 2 (.int .i64))),.eat 29 false (.pr (.int .i64) (.sl 2 (.int .i64)))],outs:=[.one (.own 29 false (.pr (.int .i64) (.sl 2 (.int .i64))))] }
def ZB.enc (y:lsd (flats ZB.fn.outs)×lsd (ios ZB.fn.ins)):(List (Int×(List Int))):=y.1.1
noncomputable def ZB.cof (F:lsd (flats ZB.fn.ins)→Option (List (Int×(List Int)))):Con:=⟨ZB.fn.ins,ZB.fn.outs,(List (Int×(List Int))),F,fun r=>((r,()),(()))⟩
noncomputable def ZB.fx:Nat→lsd (flats ZB.fn.ins)→Option (List (Int×(List Int)))
 | 0=>fun _=>none
 | n+1=>fun x=>denF (ZB.E (ZB.cof (ZB.fx n))) ZB.fn ZB.enc x
noncomputable def ZB.cn (n:Nat):Con:=ZB.cof (ZB.fx n)
noncomputable def ZB.f (n:Nat) (l0_0:List (List Int)) (a1:Int) (l2:List Int) (l3:List (Int×(List Int))):Option (List (Int×(List Int))):=ZB.fx n (l0_0,a1,l2,l3,())
noncomputable def ZB.l0 (n:Nat) (x1:Int) (x2:List Int) (x9:Int) (x10:Int) (r0:List (Int×(List Int))) (b1_0:List (List Int)):Option (List (Int×(List Int))):=denAt (ZB.E (ZB.cn n)) ZB.fn ZB.enc [1,1,0,1,0] { fr:=[(1,.lf (.int .i64 x1)),(2,.lf (.sl (.int .i64) x2)),(3,.lf (.own 0)),(4,.lf (.box 1 0)),(9,.lf (.int .i64 x9)),(10,.lf (.int .i64 x10))],ob:=[(0,.row 29 false (.pr (.int .i64) (.sl 2 (.int .i64))) r0),(1,.box 26 false [.sl (.sl 2 (.int .i64)) b1_0])],nx:=2 }
noncomputable def ZB.l1 (n:Nat) (x1:Int) (x2:List Int) (x9:Int) (x10:Int) (x11:Int) (r0:List (Int×(List Int))) (b1_0:List (List Int)):Option (List (Int×(List Int))):=denAt (ZB.E (ZB.cn n)) ZB.fn ZB.enc [1,1,0,1,0,0,1,0,0,1,0] { fr:=[(1,.lf (.int .i64 x1)),(2,.lf (.sl (.int .i64) x2)),(3,.lf (.own 0)),(4,.lf (.box 1 0)),(9,.lf (.int .i64 x9)),(10,.lf (.int .i64 x10)),(11,.lf (.int .i64 x11))],ob:=[(0,.row 29 false (.pr (.int .i64) (.sl 2 (.int .i64))) r0),(1,.box 26 false [.sl (.sl 2 (.int .i64)) b1_0])],nx:=2 }
noncomputable def ZB.l2 (n:Nat) (x1:Int) (x2:List Int) (x9:Int) (x13:Int) (r0:List (Int×(List Int))) (b1_0:List (List Int)):Option (List (Int×(List Int))):=denAt (ZB.E (ZB.cn n)) ZB.fn ZB.enc [1,1,1,1,0,1,0] { fr:=[(1,.lf (.int .i64 x1)),(2,.lf (.sl (.int .i64) x2)),(3,.lf (.own 0)),(4,.lf (.box 1 0)),(9,.lf (.int .i64 x9)),(13,.lf (.int .i64 x13))],ob:=[(0,.row 29 false (.pr (.int .i64) (.sl 2 (.int .i64))) r0),(1,.box 26 false [.sl (.sl 2 (.int .i64)) b1_0])],nx:=2 }
theorem ZB.f_eq (n:Nat) (l0_0:List (List Int)) (a1:Int) (l2:List Int) (l3:List (Int×(List Int))):ZB.f (n+1) l0_0 a1 l2 l3=ZB.l0 n a1 l2 (l2.length:Int) 0 l3 l0_0:=by kernel_rfl
theorem ZB.l0_eq (n:Nat) (x1:Int) (x2:List Int) (x9:Int) (x10:Int) (r0:List (Int×(List Int))) (b1_0:List (List Int)):ZB.l0 n x1 x2 x9 x10 r0 b1_0=if x10 < x9 then(ZB.l1 n x1 x2 x9 x10 0 r0 b1_0)else(if x9=(b1_0.length:Int)then((Zah.f x2).bind fun t64=>if r0.length+([(x1,t64)]:List (Int×(List Int))).length≤4398046511104 then(some (r0++([(x1,t64)]:List (Int×(List Int)))))else none)else(ZB.l2 n x1 x2 x9 1 r0 b1_0)):=(Zy _ _ _ _).trans (by kernel_rfl)
theorem ZB.l1_eq (n:Nat) (x1:Int) (x2:List Int) (x9:Int) (x10:Int) (x11:Int) (r0:List (Int×(List Int))) (b1_0:List (List Int)):ZB.l1 n x1 x2 x9 x10 x11 r0 b1_0=if x11 < x9 then(if 0≤x10 then(if x10 < (b1_0.length:Int)then(if 0≤x11 then(if x11 < ((row b1_0 x10).length:Int)then(if(T b1_0 x10 x11) < x9 then(if 0≤T b1_0 x10 x11 then(if T b1_0 x10 x11 < (x2.length:Int)then(if 0≤x10 then(if x10 < (x2.length:Int)then(if 0≤x11 then(if x11 < (x2.length:Int)then(if x1=0 then none else(if(rd x2 (T b1_0 x10 x11))=((wrapI ((rd x2 x10)*(rd x2 x11)):Int).tmod x1)then(ZB.l1 n x1 x2 x9 x10 (wrapI (x11+1)) r0 b1_0)else(some r0)))else none)else none)else none)else none)else none)else none)else(ZB.l1 n x1 x2 x9 x10 (wrapI (x11+1)) r0 b1_0))else none)else none)else none)else none)else(ZB.l0 n x1 x2 x9 (wrapI (x10+1)) r0 b1_0):=(Zy _ _ _ _).trans (by kernel_rfl)
theorem ZB.l2_eq (n:Nat) (x1:Int) (x2:List Int) (x9:Int) (x13:Int) (r0:List (Int×(List Int))) (b1_0:List (List Int)):ZB.l2 n x1 x2 x9 x13 r0 b1_0=if x13 < x1 then((ZaS.f x13 x1).bind fun t75=>if t75=1 then(if x9 > 0 then((Zah.f x2).bind fun t88=>if t88.length+([x13]:List Int).length≤17592186044416 then((ZB.f n b1_0 x1 (t88++([x13]:List Int)) r0).bind fun t93=>ZB.l2 n x1 x2 x9 (wrapI (x13+1)) t93 b1_0)else none)else(if x13=1 then((Zah.f x2).bind fun t88=>if t88.length+([x13]:List Int).length≤17592186044416 then((ZB.f n b1_0 x1 (t88++([x13]:List Int)) r0).bind fun t93=>ZB.l2 n x1 x2 x9 (wrapI (x13+1)) t93 b1_0)else none)else(ZB.l2 n x1 x2 x9 (wrapI (x13+1)) r0 b1_0)))else(ZB.l2 n x1 x2 x9 (wrapI (x13+1)) r0 b1_0))else(some r0):=(Zy _ _ _ _).trans (by kernel_rfl)
theorem ZB.vn:∀n,Valid Tryz.prog 112 (ZB.cn n)
 | 0=>ZdD ⟨_,Tryz.func112,by kernel_rfl,by kernel_rfl⟩
 | n+1=>ZdY (f:=ZB.fn) (E:=ZB.E (ZB.cn n)) (enc:=ZB.enc) ⟨ttOk,(Zf (ZB.vn n) (Zf Zah.valid (Zf ZaS.valid Zaq)))⟩ (Checked.mixed Tryz.checked) ⟨Tryz.func112,by kernel_rfl,by kernel_rfl,by kernel_rfl,by kernel_rfl,of_decide_eq_true (by kernel_rfl),by kernel_rfl,by kernel_rfl⟩ (fun _=>rfl)
noncomputable def ZB.con:Con:=ZB.cn fuel
theorem ZB.valid:Valid Tryz.prog 112 ZB.con:=ZB.vn fuel
end Go.Proofs.YtoljodiflhbohaaGreatDoor.P
namespace Go.Proofs.YtoljodiflhbohaaGreatDoor.P
open Go Go.RowKit Go.Proofs.YtoljodiflhbohaaGreatDoor.D
noncomputable def Zbl.E:Env:={ tt:=TT,con:=[(112,ZB.con)],frz:=[7],rows:=[8],live:=[],n:=10,pin:=0,nils:=[] }
noncomputable def Zbl.fn:D.Fn:={ body:=Tryz.f80.body.getD .skip,res:=Tryz.f80.results.toList,ins:=[.agg [.v (.sl 27 (.sl 2 (.int .i64)))],.one (.v (.int .i64))],outs:=[.one (.own 29 false (.pr (.int .i64) (.sl 2 (.int .i64))))] }
def Zbl.enc (y:lsd (flats Zbl.fn.outs)×lsd (ios Zbl.fn.ins)):(List (Int×(List Int))):=y.1.1
noncomputable def Zbl.f (l0_0:List (List Int)) (a1:Int):Option (List (Int×(List Int))):=denF Zbl.E Zbl.fn Zbl.enc (l0_0,a1,())
theorem Zbl.f_eq (l0_0:List (List Int)) (a1:Int):Zbl.f l0_0 a1=(ZB.f fuel l0_0 a1 ([]:List Int) ([]:List (Int×(List Int)))).bind fun t9=>some t9:=by kernel_rfl
noncomputable def Zbl.con:Con:=⟨Zbl.fn.ins,Zbl.fn.outs,(List (Int×(List Int))),fun x=>Zbl.f x.1 x.2.1,fun r=>((r,()),(()))⟩
theorem Zbl.valid:Valid Tryz.prog 80 Zbl.con:=fnV Zbl.fn Zbl.E Zbl.enc ⟨ttOk,(Zf ZB.valid Zaq)⟩ Tryz.func80
end Go.Proofs.YtoljodiflhbohaaGreatDoor.P
namespace Go.Proofs.YtoljodiflhbohaaGreatDoor.P
open Go Go.RowKit Go.Proofs.YtoljodiflhbohaaGreatDoor.D
noncomputable def ZaR.E:Env:={ tt:=TT,con:=[(80,Zbl.con),(28,Zr.con)],frz:=[],rows:=[],live:=[],n:=18,pin:=1,nils:=[] }
noncomputable def ZaR.fn:D.Fn:={ body:=Tryz.f29.body.getD .skip,res:=Tryz.f29.results.toList,ins:=[.ptr false 102 [.v (.sl 5 (.int .u8)),.v (.int .i64),.v (.int .u64)],.agg [.v (.sl 27 (.sl 2 (.int .i64)))],.one (.v (.int .i64))],outs:=[.agg [.v (.int .i64),.v (.sl 2 (.int .i64))]] }
def ZaR.enc (y:lsd (flats ZaR.fn.outs)×lsd (ios ZaR.fn.ins)):Int×(List Int)×(List Int)×Int×Int:=(y.1.1,y.1.2.1,y.2.1,y.2.2.1,y.2.2.2.1)
noncomputable def ZaR.f (l0_0:List Int) (a0_1:Int) (a0_2:Int) (l1_0:List (List Int)) (a2:Int):Option (Int×(List Int)×(List Int)×Int×Int):=denF ZaR.E ZaR.fn ZaR.enc (l0_0,a0_1,a0_2,l1_0,a2,())
theorem ZaR.f_eq (l0_0:List Int) (a0_1:Int) (a0_2:Int) (l1_0:List (List Int)) (a2:Int):ZaR.f l0_0 a0_1 a0_2 l1_0 a2=(Zbl.f l1_0 a2).bind fun t10=>(Zr.f l0_0 a0_1 a0_2 (t10.length:Int)).bind fun t15=>if 0≤t15.1 then(if t15.1 < (t10.length:Int)then(if 0≤t15.1 then(if t15.1 < (t10.length:Int)then(some ((Ty.rd (.pr (.int .i64) (.sl 2 (.int .i64))) t10 t15.1).1,(Ty.rd (.pr (.int .i64) (.sl 2 (.int .i64))) t10 t15.1).2,t15.2.1,t15.2.2.1,t15.2.2.2))else none)else none)else none)else none:=by kernel_rfl
noncomputable def ZaR.con:Con:=⟨ZaR.fn.ins,ZaR.fn.outs,Int×(List Int)×(List Int)×Int×Int,fun x=>ZaR.f x.1 x.2.1 x.2.2.1 x.2.2.2.1 x.2.2.2.2.1,fun r=>((r.1,r.2.1,()),(r.2.2.1,r.2.2.2.1,r.2.2.2.2,()))⟩
theorem ZaR.valid:Valid Tryz.prog 29 ZaR.con:=fnV ZaR.fn ZaR.E ZaR.enc ⟨ttOk,(Zf Zbl.valid (Zf Zr.valid Zaq))⟩ Tryz.func29
end Go.Proofs.YtoljodiflhbohaaGreatDoor.P
namespace Go.Proofs.YtoljodiflhbohaaGreatDoor.P
open Go Go.RowKit Go.Proofs.YtoljodiflhbohaaGreatDoor.D
noncomputable def ZF.E:Env:={ tt:=TT,con:=[(28,Zr.con)],frz:=[],rows:=[],live:=[],n:=12,pin:=1,nils:=[] }
noncomputable def ZF.fn:D.Fn:={ body:=Tryz.f33.body.getD .skip,res:=Tryz.f33.results.toList,ins:=[.ptr false 102 [.v (.sl 5 (.int .u8)),.v (.int .i64),.v (.int .u64)],.one (.v (.sl 2 (.int .i64)))],outs:=[.one (.v (.int .i64))] }
def ZF.enc (y:lsd (flats ZF.fn.outs)×lsd (ios ZF.fn.ins)):Int×(List Int)×Int×Int:=(y.1.1,y.2.1,y.2.2.1,y.2.2.2.1)
noncomputable def ZF.f (l0_0:List Int) (a0_1:Int) (a0_2:Int) (l1:List Int):Option (Int×(List Int)×Int×Int):=denF ZF.E ZF.fn ZF.enc (l0_0,a0_1,a0_2,l1,())
theorem ZF.f_eq (l0_0:List Int) (a0_1:Int) (a0_2:Int) (l1:List Int):ZF.f l0_0 a0_1 a0_2 l1=(Zr.f l0_0 a0_1 a0_2 (l1.length:Int)).bind fun t9=>if 0≤t9.1 then(if t9.1 < (l1.length:Int)then(some (rd l1 t9.1,t9.2.1,t9.2.2.1,t9.2.2.2))else none)else none:=by kernel_rfl
noncomputable def ZF.con:Con:=⟨ZF.fn.ins,ZF.fn.outs,Int×(List Int)×Int×Int,fun x=>ZF.f x.1 x.2.1 x.2.2.1 x.2.2.2.1,fun r=>((r.1,()),(r.2.1,r.2.2.1,r.2.2.2,()))⟩
theorem ZF.valid:Valid Tryz.prog 33 ZF.con:=fnV ZF.fn ZF.E ZF.enc ⟨ttOk,(Zf Zr.valid Zaq)⟩ Tryz.func33
end Go.Proofs.YtoljodiflhbohaaGreatDoor.P
namespace Go.Proofs.YtoljodiflhbohaaGreatDoor.P
open Go Go.RowKit Go.Proofs.YtoljodiflhbohaaGreatDoor.D
noncomputable def Za2.E:Env:={ tt:=TT,con:=[(33,ZF.con)],frz:=[4],rows:=[],live:=[],n:=6,pin:=1,nils:=[] }
noncomputable def Za2.fn:D.Fn:={ body:=Tryz.f30.body.getD .skip,res:=Tryz.f30.results.toList,ins:=[.ptr false 102 [.v (.sl 5 (.int .u8)),.v (.int .i64),.v (.int .u64)]],outs:=[.one (.v (.int .i64))] }
def Za2.enc (y:lsd (flats Za2.fn.outs)×lsd (ios Za2.fn.ins)):Int×(List Int)×Int×Int:=(y.1.1,y.2.1,y.2.2.1,y.2.2.2.1)
noncomputable def Za2.f (l0_0:List Int) (a0_1:Int) (a0_2:Int):Option (Int×(List Int)×Int×Int):=denF Za2.E Za2.fn Za2.enc (l0_0,a0_1,a0_2,())
theorem Za2.f_eq (l0_0:List Int) (a0_1:Int) (a0_2:Int):Za2.f l0_0 a0_1 a0_2=(ZF.f l0_0 a0_1 a0_2 ([2,2,3,3,4,4,5,6,8,8,9,12,7,10,11]:List Int)).bind fun t5=>some (t5.1,t5.2.1,t5.2.2.1,t5.2.2.2):=by kernel_rfl
noncomputable def Za2.con:Con:=⟨Za2.fn.ins,Za2.fn.outs,Int×(List Int)×Int×Int,fun x=>Za2.f x.1 x.2.1 x.2.2.1,fun r=>((r.1,()),(r.2.1,r.2.2.1,r.2.2.2,()))⟩
theorem Za2.valid:Valid Tryz.prog 30 Za2.con:=fnV Za2.fn Za2.E Za2.enc ⟨ttOk,(Zf ZF.valid Zaq)⟩ Tryz.func30
end Go.Proofs.YtoljodiflhbohaaGreatDoor.P
namespace Go.Proofs.YtoljodiflhbohaaGreatDoor.P
open Go Go.RowKit Go.Proofs.YtoljodiflhbohaaGreatDoor.D
noncomputable def Zp.E:Env:={ tt:=TT,con:=[],frz:=[],rows:=[],live:=[],n:=6,pin:=0,nils:=[] }
noncomputable def Zp.fn:D.Fn:={ body:=Tryz.f31.body.getD .skip,res:=Tryz.f31.results.toList,ins:=[.agg [.v (.sl 27 (.sl 2 (.int .i64)))]],outs:=[.one (.v (.int .i64))] }
def Zp.enc (y:lsd (flats Zp.fn.outs)×lsd (ios Zp.fn.ins)):Int:=y.1.1
noncomputable def Zp.f (l0_0:List (List Int)):Option Int:=denF Zp.E Zp.fn Zp.enc (l0_0,())
theorem Zp.f_eq (l0_0:List (List Int)):Zp.f l0_0=some (l0_0.length:Int):=by kernel_rfl
noncomputable def Zp.con:Con:=⟨Zp.fn.ins,Zp.fn.outs,Int,fun x=>Zp.f x.1,fun r=>((r,()),(()))⟩
theorem Zp.valid:Valid Tryz.prog 31 Zp.con:=fnV Zp.fn Zp.E Zp.enc ⟨ttOk,Zaq⟩ Tryz.func31
end Go.Proofs.YtoljodiflhbohaaGreatDoor.P
namespace Go.Proofs.YtoljodiflhbohaaGreatDoor.P
open Go Go.RowKit Go.Proofs.YtoljodiflhbohaaGreatDoor.D
noncomputable def ZN.E:Env:={ tt:=TT,con:=[(31,Zp.con)],frz:=[],rows:=[],live:=[(2,[1,2,5])],n:=16,pin:=0,nils:=[] }
noncomputable def ZN.fn:D.Fn:={ body:=Tryz.f91.body.getD .skip,res:=Tryz.f91.results.toList,ins:=[.agg [.v (.sl 27 (.sl 2 (.int .i64)))],.one (.v (.int .i64))],outs:=[.one (.v (.int .i64))] }
def ZN.enc (y:lsd (flats ZN.fn.outs)×lsd (ios ZN.fn.ins)):Int:=y.1.1
noncomputable def ZN.f (l0_0:List (List Int)) (a1:Int):Option Int:=denF ZN.E ZN.fn ZN.enc (l0_0,a1,())
noncomputable def ZN.l0 (x1:Int) (x5:Int) (b0_0:List (List Int)):Option Int:=denAt ZN.E ZN.fn ZN.enc [1,1,0,0] { fr:=[(1,.lf (.int .i64 x1)),(2,.lf (.box 0 0)),(5,.lf (.int .i64 x5))],ob:=[(0,.box 26 false [.sl (.sl 2 (.int .i64)) b0_0])],nx:=1 }
theorem ZN.f_eq (l0_0:List (List Int)) (a1:Int):ZN.f l0_0 a1=ZN.l0 a1 1 l0_0:=by kernel_rfl
theorem ZN.l0_eq (x1:Int) (x5:Int) (b0_0:List (List Int)):ZN.l0 x1 x5 b0_0=if x1 > 0 then((Zp.f b0_0).bind fun t12=>ZN.l0 (wrapI (x1 - 1)) (wrapI (x5*(wrapI (t12 - 1)))) b0_0)else(some x5):=(Zy _ _ _ _).trans (by kernel_rfl)
noncomputable def ZN.con:Con:=⟨ZN.fn.ins,ZN.fn.outs,Int,fun x=>ZN.f x.1 x.2.1,fun r=>((r,()),(()))⟩
theorem ZN.valid:Valid Tryz.prog 91 ZN.con:=fnV ZN.fn ZN.E ZN.enc ⟨ttOk,(Zf Zp.valid Zaq)⟩ Tryz.func91
end Go.Proofs.YtoljodiflhbohaaGreatDoor.P
namespace Go.Proofs.YtoljodiflhbohaaGreatDoor.P
open Go Go.RowKit Go.Proofs.YtoljodiflhbohaaGreatDoor.D
noncomputable def Za8.E:Env:={ tt:=TT,con:=[(91,ZN.con)],frz:=[],rows:=[],live:=[],n:=11,pin:=0,nils:=[] }
noncomputable def Za8.fn:D.Fn:={ body:=Tryz.f75.body.getD .skip,res:=Tryz.f75.results.toList,ins:=[.agg [.v (.sl 27 (.sl 2 (.int .i64)))],.one (.v (.int .i64))],outs:=[.agg [.v (.int .i64),.own 2 true (.int .i64)]] }
def Za8.enc (y:lsd (flats Za8.fn.outs)×lsd (ios Za8.fn.ins)):Int×(List Int):=(y.1.1,y.1.2.1)
noncomputable def Za8.f (l0_0:List (List Int)) (a1:Int):Option (Int×(List Int)):=denF Za8.E Za8.fn Za8.enc (l0_0,a1,())
theorem Za8.f_eq (l0_0:List (List Int)) (a1:Int):Za8.f l0_0 a1=(ZN.f l0_0 a1).bind fun t8=>if t8=t8 then(if 0≤t8 then(if(t8:Int).toNat≤17592186044416 then(some (a1,List.replicate (t8:Int).toNat (0:Int)))else none)else none)else none:=by kernel_rfl
noncomputable def Za8.con:Con:=⟨Za8.fn.ins,Za8.fn.outs,Int×(List Int),fun x=>Za8.f x.1 x.2.1,fun r=>((r.1,r.2,()),(()))⟩
theorem Za8.valid:Valid Tryz.prog 75 Za8.con:=fnV Za8.fn Za8.E Za8.enc ⟨ttOk,(Zf ZN.valid Zaq)⟩ Tryz.func75
end Go.Proofs.YtoljodiflhbohaaGreatDoor.P
namespace Go.Proofs.YtoljodiflhbohaaGreatDoor.P
open Go Go.RowKit Go.Proofs.YtoljodiflhbohaaGreatDoor.D
noncomputable def Zai.E:Env:={ tt:=TT,con:=[(31,Zp.con)],frz:=[],rows:=[],live:=[(3,[2,7,8,9])],n:=32,pin:=0,nils:=[] }
noncomputable def Zai.fn:D.Fn:={ body:=Tryz.f92.body.getD .skip,res:=Tryz.f92.results.toList,ins:=[.agg [.v (.sl 27 (.sl 2 (.int .i64)))],.one (.v (.int .i64)),.one (.v (.int .i64))],outs:=[.one (.own 2 true (.int .i64))] }
def Zai.enc (y:lsd (flats Zai.fn.outs)×lsd (ios Zai.fn.ins)):(List Int):=y.1.1
noncomputable def Zai.f (l0_0:List (List Int)) (a1:Int) (a2:Int):Option (List Int):=denF Zai.E Zai.fn Zai.enc (l0_0,a1,a2,())
noncomputable def Zai.l0 (x2:Int) (x8:Int) (x9:Int) (r0:List Int):Option (List Int):=denAt Zai.E Zai.fn Zai.enc [1,1,0,1,0] { fr:=[(2,.lf (.int .i64 x2)),(7,.lf (.own 0)),(8,.lf (.int .i64 x8)),(9,.lf (.int .i64 x9))],ob:=[(0,.row 2 true (.int .i64) r0)],nx:=1 }
theorem Zai.f_eq (l0_0:List (List Int)) (a1:Int) (a2:Int):Zai.f l0_0 a1 a2=if a1=a1 then(if 0≤a1 then(if(a1:Int).toNat≤17592186044416 then((Zp.f l0_0).bind fun t13=>Zai.l0 a2 (wrapI (t13 - 1)) (wrapI (a1 - 1)) (List.replicate (a1:Int).toNat (0:Int)))else none)else none)else none:=by kernel_rfl
theorem Zai.l0_eq (x2:Int) (x8:Int) (x9:Int) (r0:List Int):Zai.l0 x2 x8 x9 r0=if x9≥0 then(if x8=0 then none else(if 0≤x9 then(if x9 < (r0.length:Int)then(if 0≤x9 then(if x9 < (r0.length:Int)then(if x8=0 then none else(Zai.l0 (wrapI ((x2:Int).tdiv x8)) x8 (wrapI (x9 - 1)) (r0.set (x9:Int).toNat (wrapI (((x2:Int).tmod x8)+1)))))else none)else none)else none)else none))else(some r0):=(Zy _ _ _ _).trans (by kernel_rfl)
noncomputable def Zai.con:Con:=⟨Zai.fn.ins,Zai.fn.outs,(List Int),fun x=>Zai.f x.1 x.2.1 x.2.2.1,fun r=>((r,()),(()))⟩
theorem Zai.valid:Valid Tryz.prog 92 Zai.con:=fnV Zai.fn Zai.E Zai.enc ⟨ttOk,(Zf Zp.valid Zaq)⟩ Tryz.func92
end Go.Proofs.YtoljodiflhbohaaGreatDoor.P
namespace Go.Proofs.YtoljodiflhbohaaGreatDoor.P
open Go Go.RowKit Go.Proofs.YtoljodiflhbohaaGreatDoor.D
noncomputable def Za0.E:Env:={ tt:=TT,con:=[],frz:=[],rows:=[],live:=[],n:=12,pin:=0,nils:=[] }
noncomputable def Za0.fn:D.Fn:={ body:=Tryz.f93.body.getD .skip,res:=Tryz.f93.results.toList,ins:=[.one (.v (.int .i64)),.one (.v (.int .i64))],outs:=[.one (.v (.int .i64))] }
def Za0.enc (y:lsd (flats Za0.fn.outs)×lsd (ios Za0.fn.ins)):Int:=y.1.1
noncomputable def Za0.f (a0:Int) (a1:Int):Option Int:=denF Za0.E Za0.fn Za0.enc (a0,a1,())
theorem Za0.f_eq (a0:Int) (a1:Int):Za0.f a0 a1=if a1=0 then none else(if a1=0 then none else(some ((wrapI (((a0:Int).tmod a1)+a1):Int).tmod a1))):=by kernel_rfl
noncomputable def Za0.con:Con:=⟨Za0.fn.ins,Za0.fn.outs,Int,fun x=>Za0.f x.1 x.2.1,fun r=>((r,()),(()))⟩
theorem Za0.valid:Valid Tryz.prog 93 Za0.con:=fnV Za0.fn Za0.E Za0.enc ⟨ttOk,Zaq⟩ Tryz.func93
end Go.Proofs.YtoljodiflhbohaaGreatDoor.P
namespace Go.Proofs.YtoljodiflhbohaaGreatDoor.P
open Go Go.RowKit Go.Proofs.YtoljodiflhbohaaGreatDoor.D
noncomputable def Zat.E:Env:={ tt:=TT,con:=[(31,Zp.con)],frz:=[],rows:=[],live:=[(3,[2,3,4,7,8])],n:=36,pin:=0,nils:=[] }
noncomputable def Zat.fn:D.Fn:={ body:=Tryz.f94.body.getD .skip,res:=Tryz.f94.results.toList,ins:=[.agg [.v (.sl 27 (.sl 2 (.int .i64)))],.agg [.v (.int .i64),.v (.sl 2 (.int .i64))],.one (.v (.sl 2 (.int .i64)))],outs:=[.one (.v (.int .i64))] }
def Zat.enc (y:lsd (flats Zat.fn.outs)×lsd (ios Zat.fn.ins)):Int:=y.1.1
noncomputable def Zat.f (l0_0:List (List Int)) (a1_0:Int) (l1_1:List Int) (l2:List Int):Option Int:=denF Zat.E Zat.fn Zat.enc (l0_0,a1_0,l1_1,l2,())
noncomputable def Zat.l0 (x2:List Int) (x7:Int) (x8:Int) (b0_0:List (List Int)) (b1_0:Int) (b1_1:List Int):Option Int:=denAt Zat.E Zat.fn Zat.enc [1,1,0,1,0] { fr:=[(2,.lf (.sl (.int .i64) x2)),(3,.lf (.box 0 0)),(4,.lf (.box 1 0)),(7,.lf (.int .i64 x7)),(8,.lf (.int .i64 x8))],ob:=[(0,.box 26 false [.sl (.sl 2 (.int .i64)) b0_0]),(1,.box 31 false [.int .i64 b1_0,.sl (.int .i64) b1_1])],nx:=2 }
theorem Zat.f_eq (l0_0:List (List Int)) (a1_0:Int) (l1_1:List Int) (l2:List Int):Zat.f l0_0 a1_0 l1_1 l2=Zat.l0 l2 0 0 l0_0 a1_0 l1_1:=by kernel_rfl
theorem Zat.l0_eq (x2:List Int) (x7:Int) (x8:Int) (b0_0:List (List Int)) (b1_0:Int) (b1_1:List Int):Zat.l0 x2 x7 x8 b0_0 b1_0 b1_1=if x8 < (x2.length:Int)then(if 0≤x8 then(if x8 < (x2.length:Int)then(if(rd x2 x8)=0 then(some 0)else((Zp.f b0_0).bind fun t22=>if 0≤x8 then(if x8 < (x2.length:Int)then(Zat.l0 x2 (wrapI ((wrapI ((wrapI (x7*(wrapI (t22 - 1))))+(rd x2 x8))) - 1)) (wrapI (x8+1)) b0_0 b1_0 b1_1)else none)else none))else none)else none)else(if 0≤x7 then(if x7 < (b1_1.length:Int)then(some (rd b1_1 x7))else none)else none):=(Zy _ _ _ _).trans (by kernel_rfl)
noncomputable def Zat.con:Con:=⟨Zat.fn.ins,Zat.fn.outs,Int,fun x=>Zat.f x.1 x.2.1 x.2.2.1 x.2.2.2.1,fun r=>((r,()),(()))⟩
theorem Zat.valid:Valid Tryz.prog 94 Zat.con:=fnV Zat.fn Zat.E Zat.enc ⟨ttOk,(Zf Zp.valid Zaq)⟩ Tryz.func94
end Go.Proofs.YtoljodiflhbohaaGreatDoor.P
namespace Go.Proofs.YtoljodiflhbohaaGreatDoor.P
open Go Go.RowKit Go.Proofs.YtoljodiflhbohaaGreatDoor.D
noncomputable def ZaN.E:Env:={ tt:=TT,con:=[(94,Zat.con),(50,Zah.con),(93,Za0.con)],frz:=[],rows:=[],live:=[(4,[3,4,5,6,9,10,11,12])],n:=85,pin:=0,nils:=[] }
noncomputable def ZaN.fn:D.Fn:={ body:=Tryz.f113.body.getD .skip,res:=Tryz.f113.results.toList,ins:=[.agg [.v (.sl 27 (.sl 2 (.int .i64)))],.agg [.v (.int .i64),.v (.sl 2 (.int .i64))],.agg [.v (.int .i64),.v (.sl 2 (.int .i64))],.one (.v (.sl 2 (.int .i64)))],outs:=[.one (.v (.int .i64))] }
def ZaN.enc (y:lsd (flats ZaN.fn.outs)×lsd (ios ZaN.fn.ins)):Int:=y.1.1
noncomputable def ZaN.f (l0_0:List (List Int)) (a1_0:Int) (l1_1:List Int) (a2_0:Int) (l2_1:List Int) (l3:List Int):Option Int:=denF ZaN.E ZaN.fn ZaN.enc (l0_0,a1_0,l1_1,a2_0,l2_1,l3,())
noncomputable def ZaN.l0 (x3:List Int) (x9:Int) (x10:Int) (x11:Int) (x12:Int) (b0_0:List (List Int)) (b1_0:Int) (b1_1:List Int) (b2_0:Int) (b2_1:List Int):Option Int:=denAt ZaN.E ZaN.fn ZaN.enc [1,1,1,0,1,0] { fr:=[(3,.lf (.sl (.int .i64) x3)),(4,.lf (.box 0 0)),(5,.lf (.box 1 0)),(6,.lf (.box 2 0)),(9,.lf (.int .i64 x9)),(10,.lf (.int .i64 x10)),(11,.lf (.int .i64 x11)),(12,.lf (.int .i64 x12))],ob:=[(0,.box 26 false [.sl (.sl 2 (.int .i64)) b0_0]),(1,.box 29 false [.int .i64 b1_0,.sl (.int .i64) b1_1]),(2,.box 31 false [.int .i64 b2_0,.sl (.int .i64) b2_1])],nx:=3 }
theorem ZaN.f_eq (l0_0:List (List Int)) (a1_0:Int) (l1_1:List Int) (a2_0:Int) (l2_1:List Int) (l3:List Int):ZaN.f l0_0 a1_0 l1_1 a2_0 l2_1 l3=if 0 < (l3.length:Int)then(if 0≤rd l3 0 then(if rd l3 0 < (l1_1.length:Int)then(if 1≤(l3.length:Int)then((Zat.f l0_0 a2_0 l2_1 (l3.drop (1:Int).toNat)).bind fun t28=>ZaN.l0 l3 (wrapI ((l3.length:Int) - 1)) (wrapI ((rd l1_1 (rd l3 0))*t28)) (-1) 0 l0_0 a1_0 l1_1 a2_0 l2_1)else none)else none)else none)else none:=by kernel_rfl
theorem ZaN.l0_eq (x3:List Int) (x9:Int) (x10:Int) (x11:Int) (x12:Int) (b0_0:List (List Int)) (b1_0:Int) (b1_1:List Int) (b2_0:Int) (b2_1:List Int):ZaN.l0 x3 x9 x10 x11 x12 b0_0 b1_0 b1_1 b2_0 b2_1=if x12 < x9 then(if 0≤x12 then(if x12≤(x3.length:Int)then((Zah.f (x3.take (x12:Int).toNat)).bind fun t38=>if 0≤x12 then(if x12 < (x3.length:Int)then(if 0≤rd x3 x12 then(if rd x3 x12 < (b0_0.length:Int)then(if 0≤wrapI (x12+1)then(if wrapI (x12+1) < (x3.length:Int)then(if 0≤rd x3 (wrapI (x12+1))then(if rd x3 (wrapI (x12+1)) < ((row b0_0 (rd x3 x12)).length:Int)then(if t38.length+([T b0_0 (rd x3 x12) (rd x3 (wrapI (x12+1)))]:List Int).length≤17592186044416 then(if 0≤wrapI (x12+2)then(if wrapI (x12+2)≤(x3.length:Int)then(if(t38++([T b0_0 (rd x3 x12) (rd x3 (wrapI (x12+1)))]:List Int)).length+(x3.drop (wrapI (x12+2):Int).toNat).length≤17592186044416 then((Zat.f b0_0 b2_0 b2_1 ((t38++([T b0_0 (rd x3 x12) (rd x3 (wrapI (x12+1)))]:List Int))++(x3.drop (wrapI (x12+2):Int).toNat))).bind fun t67=>ZaN.l0 x3 x9 (wrapI (x10+(wrapI (x11*t67)))) (wrapI (0 - x11)) (wrapI (x12+1)) b0_0 b1_0 b1_1 b2_0 b2_1)else none)else none)else none)else none)else none)else none)else none)else none)else none)else none)else none)else none)else none)else none)else(if 0≤x9 then(if x9≤(x3.length:Int)then((Zat.f b0_0 b2_0 b2_1 (x3.take (x9:Int).toNat)).bind fun t79=>(Za0.f (wrapI (x10+(wrapI (x11*t79)))) b1_0).bind fun t84=>some t84)else none)else none):=(Zy _ _ _ _).trans (by kernel_rfl)
noncomputable def ZaN.con:Con:=⟨ZaN.fn.ins,ZaN.fn.outs,Int,fun x=>ZaN.f x.1 x.2.1 x.2.2.1 x.2.2.2.1 x.2.2.2.2.1 x.2.2.2.2.2.1,fun r=>((r,()),(()))⟩
theorem ZaN.valid:Valid Tryz.prog 113 ZaN.con:=fnV ZaN.fn ZaN.E ZaN.enc ⟨ttOk,(Zf Zat.valid (Zf Zah.valid (Zf Za0.valid Zaq)))⟩ Tryz.func113
end Go.Proofs.YtoljodiflhbohaaGreatDoor.P
namespace Go.Proofs.YtoljodiflhbohaaGreatDoor.P
open Go Go.RowKit Go.Proofs.YtoljodiflhbohaaGreatDoor.D
noncomputable def Z4.E:Env:={ tt:=TT,con:=[(91,ZN.con),(92,Zai.con),(113,ZaN.con)],frz:=[],rows:=[],live:=[(4,[3,4,5,6,7,8,9])],n:=37,pin:=0,nils:=[] }
noncomputable def Z4.fn:D.Fn:={ body:=Tryz.f81.body.getD .skip,res:=Tryz.f81.results.toList,ins:=[.agg [.v (.sl 27 (.sl 2 (.int .i64)))],.agg [.v (.int .i64),.v (.sl 2 (.int .i64))],.agg [.v (.int .i64),.v (.sl 2 (.int .i64))]],outs:=[.agg [.v (.int .i64),.own 2 true (.int .i64)]] }
def Z4.enc (y:lsd (flats Z4.fn.outs)×lsd (ios Z4.fn.ins)):Int×(List Int):=(y.1.1,y.1.2.1)
noncomputable def Z4.f (l0_0:List (List Int)) (a1_0:Int) (l1_1:List Int) (a2_0:Int) (l2_1:List Int):Option (Int×(List Int)):=denF Z4.E Z4.fn Z4.enc (l0_0,a1_0,l1_1,a2_0,l2_1,())
noncomputable def Z4.l0 (x7:Int) (x9:Int) (b0_0:List (List Int)) (b1_0:Int) (b1_1:List Int) (b2_0:Int) (b2_1:List Int) (b3_0:Int) (b4_0:Int) (r5:List Int):Option (Int×(List Int)):=denAt Z4.E Z4.fn Z4.enc [1,1,1,0,1,0] { fr:=[(3,.lf (.box 0 0)),(4,.lf (.box 1 0)),(5,.lf (.box 2 0)),(6,.lf (.box 3 0)),(7,.lf (.int .i64 x7)),(8,.lf (.box 4 0)),(9,.lf (.int .i64 x9))],ob:=[(0,.box 26 false [.sl (.sl 2 (.int .i64)) b0_0]),(1,.box 29 false [.int .i64 b1_0,.sl (.int .i64) b1_1]),(2,.box 31 false [.int .i64 b2_0,.sl (.int .i64) b2_1]),(3,.box 31 false [.int .i64 b3_0,.nil]),(4,.box 31 false [.int .i64 b4_0,.own 5]),(5,.row 2 true (.int .i64) r5)],nx:=6 }
theorem Z4.f_eq (l0_0:List (List Int)) (a1_0:Int) (l1_1:List Int) (a2_0:Int) (l2_1:List Int):Z4.f l0_0 a1_0 l1_1 a2_0 l2_1=Z4.l0 (wrapI (a2_0+1)) 0 l0_0 a1_0 l1_1 a2_0 l2_1 0 (wrapI (a2_0+1)) ([]:List Int):=by kernel_rfl
theorem Z4.l0_eq (x7:Int) (x9:Int) (b0_0:List (List Int)) (b1_0:Int) (b1_1:List Int) (b2_0:Int) (b2_1:List Int) (b3_0:Int) (b4_0:Int) (r5:List Int):Z4.l0 x7 x9 b0_0 b1_0 b1_1 b2_0 b2_1 b3_0 b4_0 r5=(ZN.f b0_0 x7).bind fun t19=>if x9 < t19 then((Zai.f b0_0 x7 x9).bind fun t31=>(ZaN.f b0_0 b1_0 b1_1 b2_0 b2_1 t31).bind fun t32=>if r5.length+([t32]:List Int).length≤17592186044416 then(Z4.l0 x7 (wrapI (x9+1)) b0_0 b1_0 b1_1 b2_0 b2_1 b3_0 b4_0 (r5++([t32]:List Int)))else none)else(some (b4_0,r5)):=(Zy _ _ _ _).trans (by kernel_rfl)
noncomputable def Z4.con:Con:=⟨Z4.fn.ins,Z4.fn.outs,Int×(List Int),fun x=>Z4.f x.1 x.2.1 x.2.2.1 x.2.2.2.1 x.2.2.2.2.1,fun r=>((r.1,r.2,()),(()))⟩
theorem Z4.valid:Valid Tryz.prog 81 Z4.con:=fnV Z4.fn Z4.E Z4.enc ⟨ttOk,(Zf ZN.valid (Zf Zai.valid (Zf ZaN.valid Zaq)))⟩ Tryz.func81
end Go.Proofs.YtoljodiflhbohaaGreatDoor.P
namespace Go.Proofs.YtoljodiflhbohaaGreatDoor.P
open Go Go.RowKit Go.Proofs.YtoljodiflhbohaaGreatDoor.D
noncomputable def Zu.E (c:Con):Env:={ tt:=TT,con:=[(32,c),(28,Zr.con),(81,Z4.con),(75,Za8.con),(33,ZF.con)],frz:=[32],rows:=[],live:=[(5,[0,6,8,9,10,11])],n:=54,pin:=1,nils:=[] }
noncomputable def Zu.fn:D.Fn:={ body:=Tryz.f32.body.getD .skip,res:=Tryz.f32.results.toList,ins:=[.ptr false 102 [.v (.sl 5 (.int .u8)),.v (.int .i64),.v (.int .u64)],.agg [.v (.sl 27 (.sl 2 (.int .i64)))],.agg [.v (.int .i64),.v (.sl 2 (.int .i64))],.one (.v (.int .i64))],outs:=[.agg [.v (.int .i64),.own 2 true (.int .i64)]] }
def Zu.enc (y:lsd (flats Zu.fn.outs)×lsd (ios Zu.fn.ins)):Int×(List Int)×(List Int)×Int×Int:=(y.1.1,y.1.2.1,y.2.1,y.2.2.1,y.2.2.2.1)
noncomputable def Zu.cof (F:lsd (flats Zu.fn.ins)→Option (Int×(List Int)×(List Int)×Int×Int)):Con:=⟨Zu.fn.ins,Zu.fn.outs,Int×(List Int)×(List Int)×Int×Int,F,fun r=>((r.1,r.2.1,()),(r.2.2.1,r.2.2.2.1,r.2.2.2.2,()))⟩
noncomputable def Zu.fx:Nat→lsd (flats Zu.fn.ins)→Option (Int×(List Int)×(List Int)×Int×Int)
 | 0=>fun _=>none
 | n+1=>fun x=>denF (Zu.E (Zu.cof (Zu.fx n))) Zu.fn Zu.enc x
noncomputable def Zu.cn (n:Nat):Con:=Zu.cof (Zu.fx n)
noncomputable def Zu.f (n:Nat) (l0_0:List Int) (a0_1:Int) (a0_2:Int) (l1_0:List (List Int)) (a2_0:Int) (l2_1:List Int) (a3:Int):Option (Int×(List Int)×(List Int)×Int×Int):=Zu.fx n (l0_0,a0_1,a0_2,l1_0,a2_0,l2_1,a3,())
noncomputable def Zu.l0 (n:Nat) (x10:Int) (x11:Int) (b0_0:List Int) (b0_1:Int) (b0_2:Int) (b1_0:Int) (b1_1:List Int) (b2_0:Int) (b3_0:Int) (r4:List Int):Option (Int×(List Int)×(List Int)×Int×Int):=denAt (Zu.E (Zu.cn n)) Zu.fn Zu.enc [1,1,1,0,1,0] { fr:=[(0,.lf (.box 0 0)),(6,.lf (.box 1 0)),(8,.lf (.box 2 0)),(9,.lf (.box 3 0)),(10,.lf (.int .i64 x10)),(11,.lf (.int .i64 x11))],ob:=[(0,.box 102 false [.sl (.int .u8) b0_0,.int .i64 b0_1,.int .u64 b0_2]),(1,.box 29 false [.int .i64 b1_0,.sl (.int .i64) b1_1]),(2,.box 31 false [.int .i64 b2_0,.nil]),(3,.box 31 false [.int .i64 b3_0,.own 4]),(4,.row 2 true (.int .i64) r4)],nx:=5 }
theorem Zu.f_eq (n:Nat) (l0_0:List Int) (a0_1:Int) (a0_2:Int) (l1_0:List (List Int)) (a2_0:Int) (l2_1:List Int) (a3:Int):Zu.f (n+1) l0_0 a0_1 a0_2 l1_0 a2_0 l2_1 a3=if a3 > 0 then((Zr.f l0_0 a0_1 a0_2 3).bind fun t16=>if t16.1=0 then((Zu.f n t16.2.1 t16.2.2.1 t16.2.2.2 l1_0 a2_0 l2_1 (wrapI (a3 - 1))).bind fun t26=>(Z4.f l1_0 a2_0 l2_1 t26.1 t26.2.1).bind fun t27=>some (t27.1,t27.2,t26.2.2.1,t26.2.2.2.1,t26.2.2.2.2))else((Za8.f l1_0 a3).bind fun t30=>(ZF.f t16.2.1 t16.2.2.1 t16.2.2.2 ([1,2,4]:List Int)).bind fun t33=>Zu.l0 n t33.1 0 t33.2.1 t33.2.2.1 t33.2.2.2 a2_0 l2_1 0 t30.1 t30.2))else((Za8.f l1_0 a3).bind fun t30=>(ZF.f l0_0 a0_1 a0_2 ([1,2,4]:List Int)).bind fun t33=>Zu.l0 n t33.1 0 t33.2.1 t33.2.2.1 t33.2.2.2 a2_0 l2_1 0 t30.1 t30.2):=by kernel_rfl
theorem Zu.l0_eq (n:Nat) (x10:Int) (x11:Int) (b0_0:List Int) (b0_1:Int) (b0_2:Int) (b1_0:Int) (b1_1:List Int) (b2_0:Int) (b3_0:Int) (r4:List Int):Zu.l0 n x10 x11 b0_0 b0_1 b0_2 b1_0 b1_1 b2_0 b3_0 r4=if x11 < (r4.length:Int)then((Zr.f b0_0 b0_1 b0_2 4).bind fun t42=>if t42.1 < x10 then((Zr.f t42.2.1 t42.2.2.1 t42.2.2.2 b1_0).bind fun t51=>if 0≤x11 then(if x11 < (r4.length:Int)then(if 0≤x11 then(if x11 < (r4.length:Int)then(Zu.l0 n x10 (wrapI (x11+1)) t51.2.1 t51.2.2.1 t51.2.2.2 b1_0 b1_1 b2_0 b3_0 (r4.set (x11:Int).toNat t51.1))else none)else none)else none)else none)else(Zu.l0 n x10 (wrapI (x11+1)) t42.2.1 t42.2.2.1 t42.2.2.2 b1_0 b1_1 b2_0 b3_0 r4))else(some (b3_0,r4,b0_0,b0_1,b0_2)):=(Zy _ _ _ _).trans (by kernel_rfl)
theorem Zu.vn:∀n,Valid Tryz.prog 32 (Zu.cn n)
 | 0=>ZdD ⟨_,Tryz.func32,by kernel_rfl,by kernel_rfl⟩
 | n+1=>ZdY (f:=Zu.fn) (E:=Zu.E (Zu.cn n)) (enc:=Zu.enc) ⟨ttOk,(Zf (Zu.vn n) (Zf Zr.valid (Zf Z4.valid (Zf Za8.valid (Zf ZF.valid Zaq)))))⟩ (Checked.mixed Tryz.checked) ⟨Tryz.func32,by kernel_rfl,by kernel_rfl,by kernel_rfl,by kernel_rfl,of_decide_eq_true (by kernel_rfl),by kernel_rfl,by kernel_rfl⟩ (fun _=>rfl)
noncomputable def Zu.con:Con:=Zu.cn fuel
theorem Zu.valid:Valid Tryz.prog 32 Zu.con:=Zu.vn fuel
end Go.Proofs.YtoljodiflhbohaaGreatDoor.P
namespace Go.Proofs.YtoljodiflhbohaaGreatDoor.P
open Go Go.RowKit Go.Proofs.YtoljodiflhbohaaGreatDoor.D
noncomputable def ZH.E:Env:={ tt:=TT,con:=[],frz:=[],rows:=[],live:=[(3,[0,2,3,4]),(7,[0,2,3,4,5,6])],n:=35,pin:=0,nils:=[] }
noncomputable def ZH.fn:D.Fn:={ body:=Tryz.f119.body.getD .skip,res:=Tryz.f119.results.toList,ins:=[.one (.v (.int .i64))],outs:=[.agg [.own 27 true (.sl 2 (.int .i64))]] }
def ZH.enc (y:lsd (flats ZH.fn.outs)×lsd (ios ZH.fn.ins)):(List (List Int)):=y.1.1
noncomputable def ZH.f (a0:Int):Option (List (List Int)):=denF ZH.E ZH.fn ZH.enc (a0,())
noncomputable def ZH.l0 (x0:Int) (x4:Int) (r2:List (List Int)):Option (List (List Int)):=denAt ZH.E ZH.fn ZH.enc [1,1,0,1,0] { fr:=[(0,.lf (.int .i64 x0)),(2,.lf (.box 0 0)),(3,.lf (.box 1 0)),(4,.lf (.int .i64 x4))],ob:=[(0,.box 26 false [.nil]),(1,.box 26 false [.own 2]),(2,.row 27 true (.sl 2 (.int .i64)) r2)],nx:=3 }
noncomputable def ZH.l1 (x0:Int) (x4:Int) (x6:Int) (r2:List Int) (r3:List (List Int)):Option (List (List Int)):=denAt ZH.E ZH.fn ZH.enc [1,1,0,1,0,0,1,0,0,1,0,1,0] { fr:=[(0,.lf (.int .i64 x0)),(2,.lf (.box 0 0)),(3,.lf (.box 1 0)),(4,.lf (.int .i64 x4)),(5,.lf (.own 2)),(6,.lf (.int .i64 x6))],ob:=[(0,.box 26 false [.nil]),(1,.box 26 false [.own 3]),(2,.row 2 true (.int .i64) r2),(3,.row 27 true (.sl 2 (.int .i64)) r3)],nx:=4 }
theorem ZH.f_eq (a0:Int):ZH.f a0=ZH.l0 a0 0 ([]:List (List Int)):=by kernel_rfl
theorem ZH.l0_eq (x0:Int) (x4:Int) (r2:List (List Int)):ZH.l0 x0 x4 r2=if x4 < x0 then(ZH.l1 x0 x4 0 ([]:List Int) r2)else(some r2):=(Zy _ _ _ _).trans (by kernel_rfl)
theorem ZH.l1_eq (x0:Int) (x4:Int) (x6:Int) (r2:List Int) (r3:List (List Int)):ZH.l1 x0 x4 x6 r2 r3=if x6 < x0 then(if x0=0 then none else(if r2.length+([(wrapI (x4+x6):Int).tmod x0]:List Int).length≤17592186044416 then(ZH.l1 x0 x4 (wrapI (x6+1)) (r2++([(wrapI (x4+x6):Int).tmod x0]:List Int)) r3)else none))else(if r3.length+([r2]:List (List Int)).length≤5864062014805 then(ZH.l0 x0 (wrapI (x4+1)) (r3++([r2]:List (List Int))))else none):=(Zy _ _ _ _).trans (by kernel_rfl)
noncomputable def ZH.con:Con:=⟨ZH.fn.ins,ZH.fn.outs,(List (List Int)),fun x=>ZH.f x.1,fun r=>((r,()),(()))⟩
theorem ZH.valid:Valid Tryz.prog 119 ZH.con:=fnV ZH.fn ZH.E ZH.enc ⟨ttOk,Zaq⟩ Tryz.func119
end Go.Proofs.YtoljodiflhbohaaGreatDoor.P
namespace Go.Proofs.YtoljodiflhbohaaGreatDoor.P
open Go Go.RowKit Go.Proofs.YtoljodiflhbohaaGreatDoor.D
noncomputable def ZD.E:Env:={ tt:=TT,con:=[(31,Zp.con)],frz:=[],rows:=[],live:=[(3,[2,3,4,5,6,7]),(7,[2,3,4,5,6,7,8,9])],n:=68,pin:=0,nils:=[] }
noncomputable def ZD.fn:D.Fn:={ body:=Tryz.f120.body.getD .skip,res:=Tryz.f120.results.toList,ins:=[.agg [.v (.sl 27 (.sl 2 (.int .i64)))],.agg [.v (.sl 27 (.sl 2 (.int .i64)))]],outs:=[.agg [.own 27 true (.sl 2 (.int .i64))]] }
def ZD.enc (y:lsd (flats ZD.fn.outs)×lsd (ios ZD.fn.ins)):(List (List Int)):=y.1.1
noncomputable def ZD.f (l0_0:List (List Int)) (l1_0:List (List Int)):Option (List (List Int)):=denF ZD.E ZD.fn ZD.enc (l0_0,l1_0,())
noncomputable def ZD.l0 (x5:Int) (x7:Int) (b0_0:List (List Int)) (b1_0:List (List Int)) (r4:List (List Int)):Option (List (List Int)):=denAt ZD.E ZD.fn ZD.enc [1,1,0,1,0] { fr:=[(2,.lf (.box 0 0)),(3,.lf (.box 1 0)),(4,.lf (.box 2 0)),(5,.lf (.int .i64 x5)),(6,.lf (.box 3 0)),(7,.lf (.int .i64 x7))],ob:=[(0,.box 26 false [.sl (.sl 2 (.int .i64)) b0_0]),(1,.box 26 false [.sl (.sl 2 (.int .i64)) b1_0]),(2,.box 26 false [.nil]),(3,.box 26 false [.own 4]),(4,.row 27 true (.sl 2 (.int .i64)) r4)],nx:=5 }
noncomputable def ZD.l1 (x5:Int) (x7:Int) (x9:Int) (b0_0:List (List Int)) (b1_0:List (List Int)) (r4:List Int) (r5:List (List Int)):Option (List (List Int)):=denAt ZD.E ZD.fn ZD.enc [1,1,0,1,0,0,1,0,0,1,0,1,0] { fr:=[(2,.lf (.box 0 0)),(3,.lf (.box 1 0)),(4,.lf (.box 2 0)),(5,.lf (.int .i64 x5)),(6,.lf (.box 3 0)),(7,.lf (.int .i64 x7)),(8,.lf (.own 4)),(9,.lf (.int .i64 x9))],ob:=[(0,.box 26 false [.sl (.sl 2 (.int .i64)) b0_0]),(1,.box 26 false [.sl (.sl 2 (.int .i64)) b1_0]),(2,.box 26 false [.nil]),(3,.box 26 false [.own 5]),(4,.row 2 true (.int .i64) r4),(5,.row 27 true (.sl 2 (.int .i64)) r5)],nx:=6 }
theorem ZD.f_eq (l0_0:List (List Int)) (l1_0:List (List Int)):ZD.f l0_0 l1_0=(Zp.f l1_0).bind fun t11=>ZD.l0 t11 0 l0_0 l1_0 ([]:List (List Int)):=by kernel_rfl
theorem ZD.l0_eq (x5:Int) (x7:Int) (b0_0:List (List Int)) (b1_0:List (List Int)) (r4:List (List Int)):ZD.l0 x5 x7 b0_0 b1_0 r4=(Zp.f b0_0).bind fun t16=>if x7 < (wrapI (t16*x5))then(ZD.l1 x5 x7 0 b0_0 b1_0 ([]:List Int) r4)else(some r4):=(Zy _ _ _ _).trans (by kernel_rfl)
theorem ZD.l1_eq (x5:Int) (x7:Int) (x9:Int) (b0_0:List (List Int)) (b1_0:List (List Int)) (r4:List Int) (r5:List (List Int)):ZD.l1 x5 x7 x9 b0_0 b1_0 r4 r5=(Zp.f b0_0).bind fun t25=>if x9 < (wrapI (t25*x5))then(if x5=0 then none else(if 0≤wrapI ((x7:Int).tdiv x5)then(if wrapI ((x7:Int).tdiv x5) < (b0_0.length:Int)then(if x5=0 then none else(if 0≤wrapI ((x9:Int).tdiv x5)then(if wrapI ((x9:Int).tdiv x5) < ((row b0_0 (wrapI ((x7:Int).tdiv x5))).length:Int)then(if x5=0 then none else(if 0≤(x7:Int).tmod x5 then(if(x7:Int).tmod x5 < (b1_0.length:Int)then(if x5=0 then none else(if 0≤(x9:Int).tmod x5 then(if(x9:Int).tmod x5 < ((row b1_0 ((x7:Int).tmod x5)).length:Int)then(if r4.length+([wrapI ((wrapI (x5*(T b0_0 (wrapI ((x7:Int).tdiv x5)) (wrapI ((x9:Int).tdiv x5)))))+(T b1_0 ((x7:Int).tmod x5) ((x9:Int).tmod x5)))]:List Int).length≤17592186044416 then(ZD.l1 x5 x7 (wrapI (x9+1)) b0_0 b1_0 (r4++([wrapI ((wrapI (x5*(T b0_0 (wrapI ((x7:Int).tdiv x5)) (wrapI ((x9:Int).tdiv x5)))))+(T b1_0 ((x7:Int).tmod x5) ((x9:Int).tmod x5)))]:List Int)) r5)else none)else none)else none))else none)else none))else none)else none))else none)else none))else(if r5.length+([r4]:List (List Int)).length≤5864062014805 then(ZD.l0 x5 (wrapI (x7+1)) b0_0 b1_0 (r5++([r4]:List (List Int))))else none):=(Zy _ _ _ _).trans (by kernel_rfl)
noncomputable def ZD.con:Con:=⟨ZD.fn.ins,ZD.fn.outs,(List (List Int)),fun x=>ZD.f x.1 x.2.1,fun r=>((r,()),(()))⟩
theorem ZD.valid:Valid Tryz.prog 120 ZD.con:=fnV ZD.fn ZD.E ZD.enc ⟨ttOk,(Zf Zp.valid Zaq)⟩ Tryz.func120
end Go.Proofs.YtoljodiflhbohaaGreatDoor.P
namespace Go.Proofs.YtoljodiflhbohaaGreatDoor.P
open Go Go.RowKit Go.Proofs.YtoljodiflhbohaaGreatDoor.D
noncomputable def Zx.E:Env:={ tt:=TT,con:=[(93,Za0.con)],frz:=[],rows:=[],live:=[(3,[0,1,4,5,6]),(7,[0,1,4,5,6,7,8])],n:=75,pin:=0,nils:=[] }
noncomputable def Zx.fn:D.Fn:={ body:=Tryz.f121.body.getD .skip,res:=Tryz.f121.results.toList,ins:=[.one (.v (.int .i64)),.one (.v (.int .i64))],outs:=[.agg [.own 27 true (.sl 2 (.int .i64))]] }
def Zx.enc (y:lsd (flats Zx.fn.outs)×lsd (ios Zx.fn.ins)):(List (List Int)):=y.1.1
noncomputable def Zx.f (a0:Int) (a1:Int):Option (List (List Int)):=denF Zx.E Zx.fn Zx.enc (a0,a1,())
noncomputable def Zx.l0 (x0:Int) (x1:Int) (x6:Int) (r2:List (List Int)):Option (List (List Int)):=denAt Zx.E Zx.fn Zx.enc [1,1,0,1,0] { fr:=[(0,.lf (.int .i64 x0)),(1,.lf (.int .i64 x1)),(4,.lf (.box 0 0)),(5,.lf (.box 1 0)),(6,.lf (.int .i64 x6))],ob:=[(0,.box 26 false [.nil]),(1,.box 26 false [.own 2]),(2,.row 27 true (.sl 2 (.int .i64)) r2)],nx:=3 }
noncomputable def Zx.l1 (x0:Int) (x1:Int) (x6:Int) (x8:Int) (r2:List Int) (r3:List (List Int)):Option (List (List Int)):=denAt Zx.E Zx.fn Zx.enc [1,1,0,1,0,0,1,0,0,1,0,1,0] { fr:=[(0,.lf (.int .i64 x0)),(1,.lf (.int .i64 x1)),(4,.lf (.box 0 0)),(5,.lf (.box 1 0)),(6,.lf (.int .i64 x6)),(7,.lf (.own 2)),(8,.lf (.int .i64 x8))],ob:=[(0,.box 26 false [.nil]),(1,.box 26 false [.own 3]),(2,.row 2 true (.int .i64) r2),(3,.row 27 true (.sl 2 (.int .i64)) r3)],nx:=4 }
theorem Zx.f_eq (a0:Int) (a1:Int):Zx.f a0 a1=Zx.l0 a0 a1 0 ([]:List (List Int)):=by kernel_rfl
theorem Zx.l0_eq (x0:Int) (x1:Int) (x6:Int) (r2:List (List Int)):Zx.l0 x0 x1 x6 r2=if x6 < (wrapI (2*x0))then(Zx.l1 x0 x1 x6 0 ([]:List Int) r2)else(some r2):=(Zy _ _ _ _).trans (by kernel_rfl)
theorem Zx.l1_eq (x0:Int) (x1:Int) (x6:Int) (x8:Int) (r2:List Int) (r3:List (List Int)):Zx.l1 x0 x1 x6 x8 r2 r3=if x8 < (wrapI (2*x0))then(if x0=0 then none else(if x0=0 then none else(if x0=0 then none else(if x0=0 then none else(if(wrapI ((x8:Int).tdiv x0))=1 then((Za0.f (wrapI ((wrapI (((x8:Int).tmod x0) - ((x6:Int).tmod x0)))+(wrapI ((wrapI (x1*(wrapI ((x6:Int).tdiv x0))))*(wrapI ((x8:Int).tdiv x0)))))) x0).bind fun t64=>if r2.length+([wrapI ((wrapI (x0*((wrapI ((wrapI ((x6:Int).tdiv x0))+(wrapI ((x8:Int).tdiv x0))):Int).tmod 2)))+t64)]:List Int).length≤17592186044416 then(Zx.l1 x0 x1 x6 (wrapI (x8+1)) (r2++([wrapI ((wrapI (x0*((wrapI ((wrapI ((x6:Int).tdiv x0))+(wrapI ((x8:Int).tdiv x0))):Int).tmod 2)))+t64)]:List Int)) r3)else none)else((Za0.f (wrapI ((wrapI (((x6:Int).tmod x0)+((x8:Int).tmod x0)))+(wrapI ((wrapI (x1*(wrapI ((x6:Int).tdiv x0))))*(wrapI ((x8:Int).tdiv x0)))))) x0).bind fun t64=>if r2.length+([wrapI ((wrapI (x0*((wrapI ((wrapI ((x6:Int).tdiv x0))+(wrapI ((x8:Int).tdiv x0))):Int).tmod 2)))+t64)]:List Int).length≤17592186044416 then(Zx.l1 x0 x1 x6 (wrapI (x8+1)) (r2++([wrapI ((wrapI (x0*((wrapI ((wrapI ((x6:Int).tdiv x0))+(wrapI ((x8:Int).tdiv x0))):Int).tmod 2)))+t64)]:List Int)) r3)else none))))))else(if r3.length+([r2]:List (List Int)).length≤5864062014805 then(Zx.l0 x0 x1 (wrapI (x6+1)) (r3++([r2]:List (List Int))))else none):=(Zy _ _ _ _).trans (by kernel_rfl)
noncomputable def Zx.con:Con:=⟨Zx.fn.ins,Zx.fn.outs,(List (List Int)),fun x=>Zx.f x.1 x.2.1,fun r=>((r,()),(()))⟩
theorem Zx.valid:Valid Tryz.prog 121 Zx.con:=fnV Zx.fn Zx.E Zx.enc ⟨ttOk,(Zf Za0.valid Zaq)⟩ Tryz.func121
end Go.Proofs.YtoljodiflhbohaaGreatDoor.P
namespace Go.Proofs.YtoljodiflhbohaaGreatDoor.P
open Go Go.RowKit Go.Proofs.YtoljodiflhbohaaGreatDoor.D
noncomputable def Zab.E:Env:={ tt:=TT,con:=[(119,ZH.con),(120,ZD.con),(121,Zx.con)],frz:=[],rows:=[],live:=[],n:=57,pin:=0,nils:=[] }
noncomputable def Zab.fn:D.Fn:={ body:=Tryz.f97.body.getD .skip,res:=Tryz.f97.results.toList,ins:=[.one (.v .str)],outs:=[.agg [.own 27 true (.sl 2 (.int .i64))],.one (.v .bool)] }
def Zab.enc (y:lsd (flats Zab.fn.outs)×lsd (ios Zab.fn.ins)):(List (List Int))×Bool:=(y.1.1,y.1.2.1)
noncomputable def Zab.f (a0:ByteArray):Option ((List (List Int))×Bool):=denF Zab.E Zab.fn Zab.enc (a0,())
theorem Zab.f_eq (a0:ByteArray):Zab.f a0=(ZH.f 2).bind fun t5=>if a0=(⟨#[107,108,101,105,110]⟩:ByteArray)then((ZD.f t5 t5).bind fun t11=>some (t11,true))else(if a0=(⟨#[99,117,98,101]⟩:ByteArray)then((ZD.f t5 t5).bind fun t17=>(ZD.f t5 t17).bind fun t18=>some (t18,true))else(if a0=(⟨#[99,50,99,52]⟩:ByteArray)then((ZH.f 4).bind fun t22=>(ZD.f t5 t22).bind fun t23=>some (t23,true))else(if a0=(⟨#[115,51]⟩:ByteArray)then((Zx.f 3 0).bind fun t26=>some (t26,true))else(if a0=(⟨#[100,105,104,101,100,114,97,108]⟩:ByteArray)then((Zx.f 4 0).bind fun t29=>some (t29,true))else(if a0=(⟨#[113,117,97,116,101,114,110,105,111,110]⟩:ByteArray)then((Zx.f 4 2).bind fun t32=>some (t32,true))else(if(a0.size:Int)=2 then(if 0 < (a0.size:Int)then(if(ZdF a0 0)=99 then(if 1 < (a0.size:Int)then(if(ZdF a0 1)≥49 then(if 1 < (a0.size:Int)then(if(ZdF a0 1)≤56 then(if 1 < (a0.size:Int)then((ZH.f (wrapI (wr .u8 ((ZdF a0 1) - 48)))).bind fun t55=>some (t55,true))else none)else(some (([]:List (List Int)),false)))else none)else(some (([]:List (List Int)),false)))else none)else(some (([]:List (List Int)),false)))else none)else(some (([]:List (List Int)),false)))))))):=by kernel_rfl
noncomputable def Zab.con:Con:=⟨Zab.fn.ins,Zab.fn.outs,(List (List Int))×Bool,fun x=>Zab.f x.1,fun r=>((r.1,r.2,()),(()))⟩
theorem Zab.valid:Valid Tryz.prog 97 Zab.con:=fnV Zab.fn Zab.E Zab.enc ⟨ttOk,(Zf ZH.valid (Zf ZD.valid (Zf Zx.valid Zaq)))⟩ Tryz.func97
end Go.Proofs.YtoljodiflhbohaaGreatDoor.P
namespace Go.Proofs.YtoljodiflhbohaaGreatDoor.P
open Go Go.RowKit Go.Proofs.YtoljodiflhbohaaGreatDoor.D
noncomputable def Zaz.E:Env:={ tt:=TT,con:=[(50,Zah.con)],frz:=[],rows:=[],live:=[(3,[1,2,3,4])],n:=26,pin:=0,nils:=[] }
noncomputable def Zaz.fn:D.Fn:={ body:=Tryz.f82.body.getD .skip,res:=Tryz.f82.results.toList,ins:=[.agg [.v (.sl 27 (.sl 2 (.int .i64)))]],outs:=[.agg [.own 27 true (.sl 2 (.int .i64))]] }
def Zaz.enc (y:lsd (flats Zaz.fn.outs)×lsd (ios Zaz.fn.ins)):(List (List Int)):=y.1.1
noncomputable def Zaz.f (l0_0:List (List Int)):Option (List (List Int)):=denF Zaz.E Zaz.fn Zaz.enc (l0_0,())
noncomputable def Zaz.l0 (x4:Int) (b0_0:List (List Int)) (r3:List (List Int)):Option (List (List Int)):=denAt Zaz.E Zaz.fn Zaz.enc [1,1,0,1,0] { fr:=[(1,.lf (.box 0 0)),(2,.lf (.box 1 0)),(3,.lf (.box 2 0)),(4,.lf (.int .i64 x4))],ob:=[(0,.box 26 false [.sl (.sl 2 (.int .i64)) b0_0]),(1,.box 26 false [.nil]),(2,.box 26 false [.own 3]),(3,.row 27 true (.sl 2 (.int .i64)) r3)],nx:=4 }
theorem Zaz.f_eq (l0_0:List (List Int)):Zaz.f l0_0=Zaz.l0 0 l0_0 ([]:List (List Int)):=by kernel_rfl
theorem Zaz.l0_eq (x4:Int) (b0_0:List (List Int)) (r3:List (List Int)):Zaz.l0 x4 b0_0 r3=if x4 < (b0_0.length:Int)then(if 0≤x4 then(if x4 < (b0_0.length:Int)then((Zah.f (row b0_0 x4)).bind fun t21=>if r3.length+([t21]:List (List Int)).length≤5864062014805 then(Zaz.l0 (wrapI (x4+1)) b0_0 (r3++([t21]:List (List Int))))else none)else none)else none)else(some r3):=(Zy _ _ _ _).trans (by kernel_rfl)
noncomputable def Zaz.con:Con:=⟨Zaz.fn.ins,Zaz.fn.outs,(List (List Int)),fun x=>Zaz.f x.1,fun r=>((r,()),(()))⟩
theorem Zaz.valid:Valid Tryz.prog 82 Zaz.con:=fnV Zaz.fn Zaz.E Zaz.enc ⟨ttOk,(Zf Zah.valid Zaq)⟩ Tryz.func82
end Go.Proofs.YtoljodiflhbohaaGreatDoor.P
namespace Go.Proofs.YtoljodiflhbohaaGreatDoor.P
open Go Go.RowKit Go.Proofs.YtoljodiflhbohaaGreatDoor.D
noncomputable def Zn.E:Env:={ tt:=TT,con:=[(82,Zaz.con),(31,Zp.con)],frz:=[],rows:=[],live:=[(3,[1,2,4,5,6]),(7,[1,2,4,5,6,7,8])],n:=49,pin:=0,nils:=[] }
noncomputable def Zn.fn:D.Fn:={ body:=Tryz.f98.body.getD .skip,res:=Tryz.f98.results.toList,ins:=[.agg [.v (.sl 27 (.sl 2 (.int .i64)))],.one (.v (.sl 2 (.int .i64)))],outs:=[.agg [.own 27 true (.sl 2 (.int .i64))]] }
def Zn.enc (y:lsd (flats Zn.fn.outs)×lsd (ios Zn.fn.ins)):(List (List Int)):=y.1.1
noncomputable def Zn.f (l0_0:List (List Int)) (l1:List Int):Option (List (List Int)):=denF Zn.E Zn.fn Zn.enc (l0_0,l1,())
noncomputable def Zn.l0 (x1:List Int) (x6:Int) (b0_0:List (List Int)) (r3:List (List Int)):Option (List (List Int)):=denAt Zn.E Zn.fn Zn.enc [1,1,0,1,0] { fr:=[(1,.lf (.sl (.int .i64) x1)),(2,.lf (.box 0 0)),(4,.lf (.box 1 0)),(5,.lf (.box 2 0)),(6,.lf (.int .i64 x6))],ob:=[(0,.box 26 false [.sl (.sl 2 (.int .i64)) b0_0]),(1,.box 26 false [.nil]),(2,.box 26 false [.own 3]),(3,.row 27 true (.sl 2 (.int .i64)) r3)],nx:=4 }
noncomputable def Zn.l1 (x1:List Int) (x6:Int) (x8:Int) (b0_0:List (List Int)) (r3:List Int) (r4:List (List Int)) (h4:Int):Option (List (List Int)):=denAt Zn.E Zn.fn Zn.enc [1,1,0,1,0,0,1,0,0,1,1,0] { fr:=[(1,.lf (.sl (.int .i64) x1)),(2,.lf (.box 0 0)),(4,.lf (.box 1 0)),(5,.lf (.box 2 0)),(6,.lf (.int .i64 x6)),(7,.lf (.own 3)),(8,.lf (.int .i64 x8))],ob:=[(0,.box 26 false [.sl (.sl 2 (.int .i64)) b0_0]),(1,.box 26 false [.nil]),(2,.box 26 false [.own 4]),(3,.row 2 true (.int .i64) r3),(4,.hole 27 (.sl 2 (.int .i64)) r4 (h4:Int).toNat 3)],nx:=5 }
theorem Zn.f_eq (l0_0:List (List Int)) (l1:List Int):Zn.f l0_0 l1=(Zaz.f l0_0).bind fun t10=>Zn.l0 l1 0 l0_0 t10:=by kernel_rfl
theorem Zn.l0_eq (x1:List Int) (x6:Int) (b0_0:List (List Int)) (r3:List (List Int)):Zn.l0 x1 x6 b0_0 r3=(Zp.f b0_0).bind fun t13=>if x6 < t13 then(if 0≤x6 then(if x6 < (x1.length:Int)then(if 0≤rd x1 x6 then(if rd x1 x6 < (r3.length:Int)then(if 0≤rd x1 x6 then(if rd x1 x6 < (r3.length:Int)then(Zn.l1 x1 x6 0 b0_0 (row r3 (rd x1 x6)) r3 (rd x1 x6))else none)else none)else none)else none)else none)else none)else(some r3):=(Zy _ _ _ _).trans (by kernel_rfl)
theorem Zn.l1_eq (x1:List Int) (x6:Int) (x8:Int) (b0_0:List (List Int)) (r3:List Int) (r4:List (List Int)) (h4:Int):Zn.l1 x1 x6 x8 b0_0 r3 r4 h4=(Zp.f b0_0).bind fun t27=>if x8 < t27 then(if 0≤x8 then(if x8 < (x1.length:Int)then(if 0≤x6 then(if x6 < (b0_0.length:Int)then(if 0≤x8 then(if x8 < ((row b0_0 x6).length:Int)then(if 0≤T b0_0 x6 x8 then(if T b0_0 x6 x8 < (x1.length:Int)then(if 0≤rd x1 x8 then(if rd x1 x8 < (r3.length:Int)then(if 0≤rd x1 x8 then(if rd x1 x8 < (r3.length:Int)then(Zn.l1 x1 x6 (wrapI (x8+1)) b0_0 (r3.set (rd x1 x8:Int).toNat (rd x1 (T b0_0 x6 x8))) r4 h4)else none)else none)else none)else none)else none)else none)else none)else none)else none)else none)else none)else none)else(Zn.l0 x1 (wrapI (x6+1)) b0_0 (r4.set (h4:Int).toNat r3)):=(Zy _ _ _ _).trans (by kernel_rfl)
noncomputable def Zn.con:Con:=⟨Zn.fn.ins,Zn.fn.outs,(List (List Int)),fun x=>Zn.f x.1 x.2.1,fun r=>((r,()),(()))⟩
theorem Zn.valid:Valid Tryz.prog 98 Zn.con:=fnV Zn.fn Zn.E Zn.enc ⟨ttOk,(Zf Zaz.valid (Zf Zp.valid Zaq))⟩ Tryz.func98
end Go.Proofs.YtoljodiflhbohaaGreatDoor.P
namespace Go.Proofs.YtoljodiflhbohaaGreatDoor.P
open Go Go.RowKit Go.Proofs.YtoljodiflhbohaaGreatDoor.D
noncomputable def ZR.E:Env:={ tt:=TT,con:=[(28,Zr.con),(50,Zah.con)],frz:=[8,28],rows:=[],live:=[(3,[0,1,5,6])],n:=30,pin:=1,nils:=[] }
noncomputable def ZR.fn:D.Fn:={ body:=Tryz.f122.body.getD .skip,res:=Tryz.f122.results.toList,ins:=[.ptr false 102 [.v (.sl 5 (.int .u8)),.v (.int .i64),.v (.int .u64)],.one (.v (.int .i64))],outs:=[.one (.v (.sl 2 (.int .i64)))] }
def ZR.enc (y:lsd (flats ZR.fn.outs)×lsd (ios ZR.fn.ins)):(List Int)×(List Int)×Int×Int:=(y.1.1,y.2.1,y.2.2.1,y.2.2.2.1)
noncomputable def ZR.f (l0_0:List Int) (a0_1:Int) (a0_2:Int) (a1:Int):Option ((List Int)×(List Int)×Int×Int):=denF ZR.E ZR.fn ZR.enc (l0_0,a0_1,a0_2,a1,())
noncomputable def ZR.l0 (x1:Int) (x5:List Int) (x6:Int) (b0_0:List Int) (b0_1:Int) (b0_2:Int):Option ((List Int)×(List Int)×Int×Int):=denAt ZR.E ZR.fn ZR.enc [1,1,0,1,0] { fr:=[(0,.lf (.box 0 0)),(1,.lf (.int .i64 x1)),(5,.lf (.sl (.int .i64) x5)),(6,.lf (.int .i64 x6))],ob:=[(0,.box 102 false [.sl (.int .u8) b0_0,.int .i64 b0_1,.int .u64 b0_2])],nx:=1 }
theorem ZR.f_eq (l0_0:List Int) (a0_1:Int) (a0_2:Int) (a1:Int):ZR.f l0_0 a0_1 a0_2 a1=ZR.l0 a1 ([]:List Int) 0 l0_0 a0_1 a0_2:=by kernel_rfl
theorem ZR.l0_eq (x1:Int) (x5:List Int) (x6:Int) (b0_0:List Int) (b0_1:Int) (b0_2:Int):ZR.l0 x1 x5 x6 b0_0 b0_1 b0_2=if x6 < x1 then((Zr.f b0_0 b0_1 b0_2 (wrapI (x6+1))).bind fun t17=>if 0≤t17.1 then(if t17.1≤(x5.length:Int)then((Zah.f (x5.take (t17.1:Int).toNat)).bind fun t21=>if t21.length+([x6]:List Int).length≤17592186044416 then(if 0≤t17.1 then(if t17.1≤(x5.length:Int)then(if(t21++([x6]:List Int)).length+(x5.drop (t17.1:Int).toNat).length≤17592186044416 then(ZR.l0 x1 ((t21++([x6]:List Int))++(x5.drop (t17.1:Int).toNat)) (wrapI (x6+1)) t17.2.1 t17.2.2.1 t17.2.2.2)else none)else none)else none)else none)else none)else none)else(some (x5,b0_0,b0_1,b0_2)):=(Zy _ _ _ _).trans (by kernel_rfl)
noncomputable def ZR.con:Con:=⟨ZR.fn.ins,ZR.fn.outs,(List Int)×(List Int)×Int×Int,fun x=>ZR.f x.1 x.2.1 x.2.2.1 x.2.2.2.1,fun r=>((r.1,()),(r.2.1,r.2.2.1,r.2.2.2,()))⟩
theorem ZR.valid:Valid Tryz.prog 122 ZR.con:=fnV ZR.fn ZR.E ZR.enc ⟨ttOk,(Zf Zr.valid (Zf Zah.valid Zaq))⟩ Tryz.func122
end Go.Proofs.YtoljodiflhbohaaGreatDoor.P
namespace Go.Proofs.YtoljodiflhbohaaGreatDoor.P
open Go Go.RowKit Go.Proofs.YtoljodiflhbohaaGreatDoor.D
noncomputable def Zz.E:Env:={ tt:=TT,con:=[(122,ZR.con)],frz:=[],rows:=[],live:=[(3,[5,6,7])],n:=28,pin:=1,nils:=[] }
noncomputable def Zz.fn:D.Fn:={ body:=Tryz.f99.body.getD .skip,res:=Tryz.f99.results.toList,ins:=[.ptr false 102 [.v (.sl 5 (.int .u8)),.v (.int .i64),.v (.int .u64)],.one (.v (.int .i64))],outs:=[.one (.own 2 true (.int .i64))] }
def Zz.enc (y:lsd (flats Zz.fn.outs)×lsd (ios Zz.fn.ins)):(List Int)×(List Int)×Int×Int:=(y.1.1,y.2.1,y.2.2.1,y.2.2.2.1)
noncomputable def Zz.f (l0_0:List Int) (a0_1:Int) (a0_2:Int) (a1:Int):Option ((List Int)×(List Int)×Int×Int):=denF Zz.E Zz.fn Zz.enc (l0_0,a0_1,a0_2,a1,())
noncomputable def Zz.l0 (x5:List Int) (x7:Int) (b0_0:List Int) (b0_1:Int) (b0_2:Int) (r1:List Int):Option ((List Int)×(List Int)×Int×Int):=denAt Zz.E Zz.fn Zz.enc [1,1,0,1,0] { fr:=[(5,.lf (.sl (.int .i64) x5)),(6,.lf (.own 1)),(7,.lf (.int .i64 x7))],ob:=[(0,.box 102 false [.sl (.int .u8) b0_0,.int .i64 b0_1,.int .u64 b0_2]),(1,.row 2 true (.int .i64) r1)],nx:=2 }
theorem Zz.f_eq (l0_0:List Int) (a0_1:Int) (a0_2:Int) (a1:Int):Zz.f l0_0 a0_1 a0_2 a1=(ZR.f l0_0 a0_1 a0_2 (wrapI (a1 - 1))).bind fun t11=>Zz.l0 t11.1 0 t11.2.1 t11.2.2.1 t11.2.2.2 ([0]:List Int):=by kernel_rfl
theorem Zz.l0_eq (x5:List Int) (x7:Int) (b0_0:List Int) (b0_1:Int) (b0_2:Int) (r1:List Int):Zz.l0 x5 x7 b0_0 b0_1 b0_2 r1=if x7 < (x5.length:Int)then(if 0≤x7 then(if x7 < (x5.length:Int)then(if r1.length+([wrapI ((rd x5 x7)+1)]:List Int).length≤17592186044416 then(Zz.l0 x5 (wrapI (x7+1)) b0_0 b0_1 b0_2 (r1++([wrapI ((rd x5 x7)+1)]:List Int)))else none)else none)else none)else(some (r1,b0_0,b0_1,b0_2)):=(Zy _ _ _ _).trans (by kernel_rfl)
noncomputable def Zz.con:Con:=⟨Zz.fn.ins,Zz.fn.outs,(List Int)×(List Int)×Int×Int,fun x=>Zz.f x.1 x.2.1 x.2.2.1 x.2.2.2.1,fun r=>((r.1,()),(r.2.1,r.2.2.1,r.2.2.2,()))⟩
theorem Zz.valid:Valid Tryz.prog 99 Zz.con:=fnV Zz.fn Zz.E Zz.enc ⟨ttOk,(Zf ZR.valid Zaq)⟩ Tryz.func99
end Go.Proofs.YtoljodiflhbohaaGreatDoor.P
namespace Go.Proofs.YtoljodiflhbohaaGreatDoor.P
open Go Go.RowKit Go.Proofs.YtoljodiflhbohaaGreatDoor.D
noncomputable def Za1.E:Env:={ tt:=TT,con:=[(28,Zr.con),(97,Zab.con),(31,Zp.con),(99,Zz.con),(98,Zn.con)],frz:=[],rows:=[],live:=[],n:=28,pin:=1,nils:=[] }
noncomputable def Za1.fn:D.Fn:={ body:=Tryz.f48.body.getD .skip,res:=Tryz.f48.results.toList,ins:=[.ptr false 102 [.v (.sl 5 (.int .u8)),.v (.int .i64),.v (.int .u64)]],outs:=[.agg [.own 27 true (.sl 2 (.int .i64))]] }
def Za1.enc (y:lsd (flats Za1.fn.outs)×lsd (ios Za1.fn.ins)):(List (List Int))×(List Int)×Int×Int:=(y.1.1,y.2.1,y.2.2.1,y.2.2.2.1)
noncomputable def Za1.f (l0_0:List Int) (a0_1:Int) (a0_2:Int):Option ((List (List Int))×(List Int)×Int×Int):=denF Za1.E Za1.fn Za1.enc (l0_0,a0_1,a0_2,())
theorem Za1.f_eq (l0_0:List Int) (a0_1:Int) (a0_2:Int):Za1.f l0_0 a0_1 a0_2=(Zr.f l0_0 a0_1 a0_2 (([(⟨#[99,49]⟩:ByteArray),(⟨#[99,50]⟩:ByteArray),(⟨#[99,50]⟩:ByteArray),(⟨#[99,51]⟩:ByteArray),(⟨#[99,51]⟩:ByteArray),(⟨#[99,52]⟩:ByteArray),(⟨#[107,108,101,105,110]⟩:ByteArray)]:List ByteArray).length:Int)).bind fun t12=>if 0≤t12.1 then(if t12.1 < (([(⟨#[99,49]⟩:ByteArray),(⟨#[99,50]⟩:ByteArray),(⟨#[99,50]⟩:ByteArray),(⟨#[99,51]⟩:ByteArray),(⟨#[99,51]⟩:ByteArray),(⟨#[99,52]⟩:ByteArray),(⟨#[107,108,101,105,110]⟩:ByteArray)]:List ByteArray).length:Int)then(if 0≤t12.1 then(if t12.1 < (([(⟨#[99,49]⟩:ByteArray),(⟨#[99,50]⟩:ByteArray),(⟨#[99,50]⟩:ByteArray),(⟨#[99,51]⟩:ByteArray),(⟨#[99,51]⟩:ByteArray),(⟨#[99,52]⟩:ByteArray),(⟨#[107,108,101,105,110]⟩:ByteArray)]:List ByteArray).length:Int)then((Zab.f (Ty.rd .str ([(⟨#[99,49]⟩:ByteArray),(⟨#[99,50]⟩:ByteArray),(⟨#[99,50]⟩:ByteArray),(⟨#[99,51]⟩:ByteArray),(⟨#[99,51]⟩:ByteArray),(⟨#[99,52]⟩:ByteArray),(⟨#[107,108,101,105,110]⟩:ByteArray)]:List ByteArray) t12.1)).bind fun t15=>(Zr.f t12.2.1 t12.2.2.1 t12.2.2.2 2).bind fun t19=>if t19.1=0 then(some (t15.1,t19.2.1,t19.2.2.1,t19.2.2.2))else((Zp.f t15.1).bind fun t25=>(Zz.f t19.2.1 t19.2.2.1 t19.2.2.2 t25).bind fun t26=>(Zn.f t15.1 t26.1).bind fun t27=>some (t27,t26.2.1,t26.2.2.1,t26.2.2.2)))else none)else none)else none)else none:=by kernel_rfl
noncomputable def Za1.con:Con:=⟨Za1.fn.ins,Za1.fn.outs,(List (List Int))×(List Int)×Int×Int,fun x=>Za1.f x.1 x.2.1 x.2.2.1,fun r=>((r.1,()),(r.2.1,r.2.2.1,r.2.2.2,()))⟩
theorem Za1.valid:Valid Tryz.prog 48 Za1.con:=fnV Za1.fn Za1.E Za1.enc ⟨ttOk,(Zf Zr.valid (Zf Zab.valid (Zf Zp.valid (Zf Zz.valid (Zf Zn.valid Zaq)))))⟩ Tryz.func48
end Go.Proofs.YtoljodiflhbohaaGreatDoor.P
namespace Go.Proofs.YtoljodiflhbohaaGreatDoor.P
open Go Go.RowKit Go.Proofs.YtoljodiflhbohaaGreatDoor.D
noncomputable def Zbf.E:Env:={ tt:=TT,con:=[],frz:=[],rows:=[],live:=[],n:=2,pin:=0,nils:=[] }
noncomputable def Zbf.fn:D.Fn:={ body:=Tryz.f111.body.getD .skip,res:=Tryz.f111.results.toList,ins:=[],outs:=[.one (.own 9 true .str)] }
def Zbf.enc (y:lsd (flats Zbf.fn.outs)×lsd (ios Zbf.fn.ins)):(List ByteArray):=y.1.1
noncomputable def Zbf.f:Option (List ByteArray):=denF Zbf.E Zbf.fn Zbf.enc (())
theorem Zbf.f_eq:Zbf.f=some ([(⟨#[99,49]⟩:ByteArray),(⟨#[99,50]⟩:ByteArray),(⟨#[99,51]⟩:ByteArray),(⟨#[99,52]⟩:ByteArray),(⟨#[99,53]⟩:ByteArray),(⟨#[99,54]⟩:ByteArray),(⟨#[99,55]⟩:ByteArray),(⟨#[99,56]⟩:ByteArray),(⟨#[107,108,101,105,110]⟩:ByteArray),(⟨#[115,51]⟩:ByteArray),(⟨#[99,50,99,52]⟩:ByteArray),(⟨#[99,117,98,101]⟩:ByteArray),(⟨#[100,105,104,101,100,114,97,108]⟩:ByteArray),(⟨#[113,117,97,116,101,114,110,105,111,110]⟩:ByteArray)]:List ByteArray):=by kernel_rfl
noncomputable def Zbf.con:Con:=⟨Zbf.fn.ins,Zbf.fn.outs,(List ByteArray),fun x=>Zbf.f,fun r=>((r,()),(()))⟩
theorem Zbf.valid:Valid Tryz.prog 111 Zbf.con:=fnV Zbf.fn Zbf.E Zbf.enc ⟨ttOk,Zaq⟩ Tryz.func111
end Go.Proofs.YtoljodiflhbohaaGreatDoor.P
namespace Go.Proofs.YtoljodiflhbohaaGreatDoor.P
open Go Go.RowKit Go.Proofs.YtoljodiflhbohaaGreatDoor.D
noncomputable def Zbh.E:Env:={ tt:=TT,con:=[(111,Zbf.con),(28,Zr.con),(97,Zab.con),(31,Zp.con),(99,Zz.con),(98,Zn.con)],frz:=[],rows:=[],live:=[],n:=28,pin:=1,nils:=[] }
noncomputable def Zbh.fn:D.Fn:={ body:=Tryz.f78.body.getD .skip,res:=Tryz.f78.results.toList,ins:=[.ptr false 102 [.v (.sl 5 (.int .u8)),.v (.int .i64),.v (.int .u64)]],outs:=[.agg [.own 27 true (.sl 2 (.int .i64))]] }
def Zbh.enc (y:lsd (flats Zbh.fn.outs)×lsd (ios Zbh.fn.ins)):(List (List Int))×(List Int)×Int×Int:=(y.1.1,y.2.1,y.2.2.1,y.2.2.2.1)
noncomputable def Zbh.f (l0_0:List Int) (a0_1:Int) (a0_2:Int):Option ((List (List Int))×(List Int)×Int×Int):=denF Zbh.E Zbh.fn Zbh.enc (l0_0,a0_1,a0_2,())
theorem Zbh.f_eq (l0_0:List Int) (a0_1:Int) (a0_2:Int):Zbh.f l0_0 a0_1 a0_2=(Zbf.f).bind fun t6=>(Zr.f l0_0 a0_1 a0_2 (t6.length:Int)).bind fun t12=>if 0≤t12.1 then(if t12.1 < (t6.length:Int)then(if 0≤t12.1 then(if t12.1 < (t6.length:Int)then((Zab.f (Ty.rd .str t6 t12.1)).bind fun t15=>(Zr.f t12.2.1 t12.2.2.1 t12.2.2.2 2).bind fun t19=>if t19.1=0 then(some (t15.1,t19.2.1,t19.2.2.1,t19.2.2.2))else((Zp.f t15.1).bind fun t25=>(Zz.f t19.2.1 t19.2.2.1 t19.2.2.2 t25).bind fun t26=>(Zn.f t15.1 t26.1).bind fun t27=>some (t27,t26.2.1,t26.2.2.1,t26.2.2.2)))else none)else none)else none)else none:=by kernel_rfl
noncomputable def Zbh.con:Con:=⟨Zbh.fn.ins,Zbh.fn.outs,(List (List Int))×(List Int)×Int×Int,fun x=>Zbh.f x.1 x.2.1 x.2.2.1,fun r=>((r.1,()),(r.2.1,r.2.2.1,r.2.2.2,()))⟩
theorem Zbh.valid:Valid Tryz.prog 78 Zbh.con:=fnV Zbh.fn Zbh.E Zbh.enc ⟨ttOk,(Zf Zbf.valid (Zf Zr.valid (Zf Zab.valid (Zf Zp.valid (Zf Zz.valid (Zf Zn.valid Zaq))))))⟩ Tryz.func78
end Go.Proofs.YtoljodiflhbohaaGreatDoor.P
