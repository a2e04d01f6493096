/- What the proof of the law Steps stands on, part 3: words, each Go function's Lean function, and that the Go code comes to its answers; no condition. (Packed by wip/myprint/pack.py out of what the kit's printer wrote, its words among it, partly by our patches of it, and out of texts of this session.) -/
import Derived.Eval
import Derived.Test.YtdamfbighdkcbaaGreatProg
import Derived.Test.YtdamfbighdkcbaaGreatChecked
import Derived.KernelRfl
import Derived.Test.YtdamfbighdkcbaaGreatKSteps2
set_option linter.unusedVariables false
set_option linter.unusedSimpArgs false
namespace Go.Proofs.YtdamfbighdkcbaaGreat.D
open Go Go.RowKit
def Stp.ochg (s:Stp):Chg (Option Ob):=⟨λ T=>T∈s.tch,λ T=>lk T s.add⟩
def Stp.fchg (s:Stp):Chg (Option AV):=⟨λ t=>s.dst=some t,λ _=>some s.v⟩
abbrev lookF (fr:List (Nat×AV)):Nat->Option AV:=λ t=>lk t fr
theorem Ze5 {s:Stp} (hn:nodup (keys s.add)=true) (L:List (Nat×Ob)):look (pts s.add (rms s.del L))=s.ochg.ap (look L):=by
 funext T
 show lk T (pts s.add (rms s.del L))=_;rw[ZdS T _ _ hn,Zca]
 by_cases h:T∈s.tch
 ·
  rw[Chg.ap_tch (c:=s.ochg) h];show _=lk T s.add
  cases hl:lk T s.add with
  | some o=>rfl
  | none =>
   have:T∈s.del:=(List.mem_append.1 h).elim (λ h=>by rw[ZbA,hl]at h;cases h) id
   simp[this]
 ·
  rw[Chg.ap_not (c:=s.ochg) h];unfold Stp.tch at h;rw[List.mem_append,not_or,ZbA]at h
  cases hl:lk T s.add with
  | some o=>rw[hl]at h;simp at h
  | none=>simp[h.2]
theorem Zhd (s:Stp) (fr:List (Nat×AV)):lookF (s.fr fr)=s.fchg.ap (lookF fr):=by
 funext t
 show lk t (s.fr fr)=_;unfold Stp.fr
 by_cases h:s.dst=some t
 ·
  rw[Chg.ap_tch (c:=s.fchg) h,h];simp only[lk_pt,if_pos]
  rfl
 ·
  rw[Chg.ap_not (c:=s.fchg) h]
  cases hd:s.dst with
  | none=>rfl
  | some d =>
   simp only[lk_pt];rw[if_neg λ e=>h (by rw[hd,e])]
abbrev Rel:=Rz->(Nat->Prop)->Obs->World->Prop
def Stays (J:Rel):Prop:=∀{ρ Z ob w ρ' Z' ob' w'},J ρ Z ob w->Trn ρ Z ob w ρ' Z' ob' w' -> J ρ' Z' ob' w'
def Hld (P:Program) (B:Nat->Prop) (n:Nat) (J:Rel) (fr:Nat->Option AV) (ob:Obs) (fresh:Nat->Prop) (a:Act) (w:World):Prop :=
 ∃ρ Z L,look L=ob/\Mem P B ρ Z ob w/\J ρ Z ob w/\(∀t av,fr t=some av->AR P B ρ Z w av (a.eval (.tmp t)))/\a.tmps.size=n/\a.defers=[]/\∀T,fresh T -> ρ T=none
section
variable {P:Program} {B:Nat->Prop} {n:Nat} {J:Rel} {fr:Nat->Option AV} {ob:Obs} {fresh:Nat->Prop} {a:Act} {w:World}
theorem Hld.less {fresh' : Nat->Prop} (h:Hld P B n J fr ob fresh a w) (hf:∀T,fresh' T->fresh T):Hld P B n J fr ob fresh' a w:=by obtain⟨ρ,Z,L,h1,h2,h3,h4,h5,h6,h7⟩:=h;exact⟨ρ,Z,L,h1,h2,h3,h4,h5,h6,λ T hT=>h7 T (hf T hT)⟩
theorem Zkf (hJ:Stays J) {all:Array Oper} {o:Oper} {σ : St} {s:Stp} (hr:Runs P B n all o σ s) (h:Hld P B n J fr ob fresh a w) (hob:∀T∈s.need++s.tch,ob T=lk T σ.ob) (hfr:∀t∈o.looksAt all,fr t=lk t σ.fr)
  (hfresh:∀T,s.lo<=T->T < s.hi->fresh T) {K:Act->World->Prop} {Q:Exit->Act->World->Prop} (hK:∀a' w', Hld P B n J (s.fchg.ap fr) (s.ochg.ap ob) (λ T=>fresh T/\¬ (s.lo<=T/\T < s.hi)) a' w' -> K a' w') :
  if Region.wanted o (yielded all a.tmps)=true then o.wp P a w K Q else K (a.put o.dst undef) w:=by
 obtain⟨ρ,Z,L,rfl,h2,h3,h4,h5,h6,h7⟩:=h;refine hr.run ρ Z w a L h2 hob (λ t ht av hav=>h4 t av ((hfr t ht).trans hav)) (λ T k1 k2=>h7 T (hfresh T k1 k2)) K Q λ v w' ha=>hK _ w' ?_
 obtain⟨ρ', Z', g1,g2,g3,g4⟩:=ha;have hf:=g2.fut h2;refine⟨ρ', Z', _,Ze5 hr.nd L,Ze5 hr.nd L ▸ g1,Ze5 hr.nd L ▸ hJ h3 g2,λ t av hav => ?_,?_,?_,λ T k=>g4 T (h7 T k.1) k.2⟩
 ·
  by_cases hd:s.dst=some t
  ·
   rw[Chg.ap_tch (c:=s.fchg) hd]at hav;obtain rfl:s.v=av:=Option.some.inj hav;rw[<-hr.dst,hd];have:t < a.tmps.size:=h5 ▸ hr.room t (hr.dst ▸ hd)
   simpa [Act.put,Act.eval,Array.getD_eq_getD_getElem?,this] using g3
  ·rw[Chg.ap_not (c:=s.fchg) hd]at hav;rw[Act.eval_put λ d hd' he=>hd (by cases he;rw[hr.dst];exact hd')];exact(h4 t av hav).fut hf
 ·
  rw[<-h5]
  cases o.dst with
  | none=>rfl
  | some d=>simp[Act.put]
 ·
  rw[<-h6]
  cases o.dst <;> rfl
theorem ZjC {all:Array Oper}:∀(ops:List Oper) (σ : St) (ss:List Stp) (σ' : St),Chain P B n all ops σ ss σ' ->
    ss.length=ops.length /\ σ.nx <= σ'.nx/\look σ'.ob=Chg.all (ss.map Stp.ochg) (look σ.ob)/\lookF σ'.fr=Chg.all (ss.map Stp.fchg) (lookF σ.fr)/\(∀(k:Nat) s,ss[k]? = some s -> σ.nx<=s.lo/\s.hi <= σ'.nx) /\
    ∀(k:Nat) o s,ops[k]? = some o->ss[k]? = some s->∃σk,Runs P B n all o σk s/\look σk.ob=Chg.all ((ss.map Stp.ochg).take k) (look σ.ob)/\lookF σk.fr=Chg.all ((ss.map Stp.fchg).take k) (lookF σ.fr)/\∀(j:Nat) s', j < k->ss[j]? = some s' -> s'.hi<=s.lo
  | [],σ,[],σ', h=>by
    cases h
    exact⟨rfl,Nat.le_refl _,rfl,rfl,λ k s h=>by simp at h,λ k o s h=>by simp at h⟩
  | [],σ,_ :: _,σ', h=>h.elim
  | _ :: _,σ,[],σ', h=>h.elim
  | o :: r, σ, s :: q,σ', ⟨h1,h2⟩=>by
    obtain⟨k1,k2,k3,k4,k5,k6⟩:=ZjC r _ q σ' h2;have hlo : σ.nx<=s.lo:=Nat.le_of_eq h1.lo.symm;refine⟨by simp[k1],Nat.le_trans hlo (Nat.le_trans h1.le k2),?_,?_,λ k s' hs => ?_,λ k o' s' ho hs => ?_⟩
    · rw[k3];show Chg.all _ (look (pts s.add (rms s.del σ.ob)))=_;rw[Ze5 h1.nd];rfl
    · rw[k4];show Chg.all _ (lookF (s.fr σ.fr))=_;rw[Zhd];rfl
    · cases k with
      | zero => obtain rfl:s=s' := by simpa using hs
                exact⟨hlo,k2⟩
      | succ k=>exact⟨Nat.le_trans (Nat.le_trans hlo h1.le) (k5 k s' (by simpa using hs)).1,(k5 k s' (by simpa using hs)).2⟩
    · cases k with
      | zero =>
        obtain rfl:s=s' := by simpa using hs
        obtain rfl:o=o' := by simpa using ho
        exact⟨σ,h1,rfl,rfl,λ j _ h=>absurd h (Nat.not_lt_zero _)⟩
      | succ k =>
        obtain⟨σk,g1,g2,g3,g4⟩:=k6 k o' s' (by simpa using ho) (by simpa using hs);refine⟨σk,g1,?_,?_,λ j s2 hj h2' => ?_⟩
        · rw[g2];show Chg.all _ (look (pts s.add (rms s.del σ.ob)))=_;rw[Ze5 h1.nd];rfl
        · rw[g3];show Chg.all _ (lookF (s.fr σ.fr))=_;rw[Zhd];rfl
        · cases j with
          | zero => obtain rfl:s=s2:=by simpa using h2'
                    exact(k5 k s' (by simpa using hs)).1
          | succ j=>exact g4 j s2 (by omega) (by simpa using h2')
abbrev HldS (P:Program) (B:Nat->Prop) (n:Nat) (J:Rel) (σ : St) (a:Act) (w:World):Prop:=Hld P B n J (lookF σ.fr) (look σ.ob) (λ T => σ.nx<=T) a w
theorem Zmx {all:Array Oper} {Q:Exit->Act->World->Prop} {k:Nat} {o:Oper} (ho:all[k]? = some o) {K:Act->World->Prop} (h:if Region.wanted o (yielded all a.tmps)=true then o.wp P a w K Q else K (a.put o.dst undef) w):wpOp P all Q k K a w:=by
 unfold wpOp;rw[ho];simp only
 split at h
 ·rename_i hw;rw[if_pos hw];exact .inl h
 ·rename_i hw;rw[if_neg hw];exact h
theorem Zj5 (hJ:Stays J) {all:Array Oper} {Q:Exit->Act->World->Prop} {σ' : St} (hQ:∀a w,HldS P B n J σ' a w->Q .normal a w):∀(rest:List Oper) (σ : St) (ss:List Stp) (k:Nat) (a:Act) (w:World),Chain P B n all rest σ ss σ' -> (∀i o,rest[i]? = some o->all[k+i]? = some o)->HldS P B n J σ a w ->
  wpOps P all Q (List.range' k rest.length) a w
 | [],σ,[],k,a,w,h,_,hh=>by cases h;exact hQ a w hh
 | [],σ,_ :: _,k,a,w,h,_,_=>h.elim
 | _ :: _,σ,[],k,a,w,h,_,_=>h.elim
 | o :: r,σ,s :: q,k,a,w,⟨h1,h2⟩,hr,hh=>by
  rw[List.length_cons,List.range'_succ,wpOps_cons];refine Zmx (hr 0 o rfl) (Zkf hJ h1 hh (λ _ _=>rfl) (λ _ _=>rfl) (λ T h3 _=>h1.lo ▸ h3) λ a' w' h' => ?_);refine Zj5 hJ hQ r _ q (k+1) a' w' h2 (λ i o' ho=>by rw[show k+1+i=k+(i+1)by omega];exact hr (i+1) o' (by simpa using ho)) ?_;have e1:look (s.st σ).ob=s.ochg.ap (look σ.ob):=Ze5 h1.nd _;have e2:lookF (s.st σ).fr=s.fchg.ap (lookF σ.fr):=Zhd _ _;show Hld P B n J _ _ _ a' w';rw[e1,e2];refine h'.less λ T (hT:s.hi<=T)=>⟨?_,λ h=>by omega⟩
  have h3:=h1.lo;have h4:=h1.le;show σ.nx<=T;omega
theorem Zjj (hJ:Stays J) {id:Nat} {ops:Array Oper} {Q:Exit->Act->World->Prop} {σ σ' : St} {ss:List Stp} (hc:Chain P B n ops ops.toList σ ss σ') (h:HldS P B n J σ a w) (hQ:∀a w,HldS P B n J σ' a w->Q .normal a w):(Code.region id ops false).wp P Q a w:=by refine wp_region ?_;have:=Zj5 hJ hQ ops.toList σ ss 0 a w hc (λ i o ho=>by simpa using ho) h;rwa[Array.length_toList,<-List.range_eq_range']at this
def Frees (ops:Array Oper) (ss:List Stp) (i j:Nat):Prop:=∀a b s t,ops[i]? = some a->ops[j]? = some b->ss[i]? = some s->ss[j]? = some t->a.apart ops b=true/\free2 (s.need,s.tch) (t.need,t.tch)=true
theorem ZgI {ops:Array Oper} {m:Nat} {b:Oper} {tb:Trc}:∀(l:List Oper) (t:List Trc) (i:Nat),Zhp ops m b tb i l t=true->∀j a ta,l[j]? = some a->t[j]? = some ta->Zio ops m a ta (i+j) b tb=true
 | [],_,_,_,_,_,_,h,_=>by simp at h
 | _ :: _,[],_,_,_,_,_,_,h=>by simp at h
 | a :: r,ta :: q,i,h,j,a', ta', h1,h2=>by
  unfold Zhp at h;rw[Bool.and_eq_true]at h
  cases j with
  | zero =>
   obtain rfl:a=a' := by simpa using h1
   obtain rfl:ta=ta' := by simpa using h2
   exact h.1
  | succ j =>
   rw[show i+(j+1)=i+1+j by omega];exact ZgI r q (i+1) h.2 j a' ta' (by simpa using h1) (by simpa using h2)
theorem ZhL {ops:Array Oper} {l0:List Oper} {t0:List Trc}:∀(l:List Oper) (t:List Trc) (ms:List Nat) (j:Nat),ZhK ops l0 t0 j l t ms=true->∀k b tb,l[k]? = some b->t[k]? = some tb ->
  (b.after.all (λ e => !Region.binds .any e || Nat.blt e.on (j+k))=true)/\∃m,ms[k]? = some m/\∀i a ta,i < j+k->l0[i]? = some a->t0[i]? = some ta->Zio ops m a ta i b tb=true
 | [],_,_,_,_,_,_,_,h,_=>by simp at h
 | _ :: _,[],_,_,_,_,_,_,_,h=>by simp at h
 | _ :: _,_ :: _,[],_,h,_,_,_,_,_=>by simp[ZhK]at h
 | b :: r,tb :: q,m :: ms,j,h,k,b', tb', h1,h2=>by
  unfold ZhK at h;simp only[Bool.and_eq_true]at h;obtain⟨⟨⟨g1,g2⟩,g3⟩,g4⟩:=h
  cases k with
  | zero =>
   obtain rfl:b=b' := by simpa using h1
   obtain rfl:tb=tb' := by simpa using h2
   refine⟨g1,m,rfl,λ i a ta hi h3 h4 => ?_⟩;have:=ZgI _ _ 0 g3 i a ta (by rw[List.getElem?_take];simp[show i < j by omega,h3]) (by rw[List.getElem?_take];simp[show i < j by omega,h4]);rwa[Nat.zero_add]at this
  | succ k =>
   obtain⟨k1,m', k2,k3⟩:=ZhL r q ms (j+1) g4 k b' tb' (by simpa using h1) (by simpa using h2);rw[show j+1+k=j+(k+1)by omega]at k1 k3;exact⟨k1,m', by simpa using k2,k3⟩
theorem ZfN {acc:List Nat}:∀(es:List Edge) (i:Nat),(ZdL acc es).testBit i=true->∃e∈es,Region.binds .any e=true/\(i=e.on\/(acc.getD e.on 0).testBit i=true)
 | [],i,h=>by simp[ZdL]at h
 | e :: r,i,h=>by
  unfold ZdL at h;rw[Nat.testBit_or,Bool.or_eq_true]at h;rcases h with h|h
  ·
   cases hb:Region.binds .any e with
   | false=>rw[hb]at h;simp at h
   | true =>
    rw[hb]at h;simp only[cond_true,Nat.testBit_or,Bool.or_eq_true,Nat.testBit_two_pow,decide_eq_true_eq]at h;exact⟨e,List.mem_cons_self,hb,h.imp Eq.symm id⟩
  ·obtain⟨e', h1,h2⟩:=ZfN r i h;exact⟨e', List.mem_cons_of_mem _ h1,h2⟩
theorem Zjx:∀(l:List Oper) (acc:List Nat),∃t,befs l acc=acc++t
 | [],acc=>⟨[],by simp[befs]⟩
 | o :: r,acc=>by obtain⟨t,ht⟩:=Zjx r (acc++[ZdL acc o.after.toList]);exact⟨[ZdL acc o.after.toList]++t,by unfold befs;rw[ht];simp⟩
theorem Zk6:∀(l:List Oper) (acc:List Nat) (k:Nat) (o:Oper) (m:Nat),l[k]? = some o->(befs l acc)[acc.length+k]? = some m->∃acc', acc'.length=acc.length+k/\(∃t,befs l acc=acc' ++ t)/\m=ZdL acc' o.after.toList
 | [],_,_,_,_,h,_=>by simp at h
 | o :: r,acc,0,o', m,h1,h2=>by
  obtain rfl:o=o' := by simpa using h1
  unfold befs at h2;obtain⟨t,ht⟩:=Zjx r (acc++[ZdL acc o.after.toList]);rw[ht]at h2;simp at h2;exact⟨acc,rfl,⟨[ZdL acc o.after.toList]++t,by unfold befs;rw[ht];simp⟩,h2.symm⟩
 | o :: r,acc,k+1,o', m,h1,h2=>by unfold befs at h2 ⊢;obtain⟨acc', k1,k2,k3⟩:=Zk6 r (acc++[ZdL acc o.after.toList]) k o' m (by simpa using h1) (by rw[List.length_append,List.length_singleton,show acc.length+1+k=acc.length+(k+1)by omega];exact h2);exact⟨acc', by rw[k1];simp;omega,k2,k3⟩
theorem Zk7 {l:List Oper} {k i m:Nat} {o:Oper} (h1:l[k]? = some o) (h2:(befs l [])[k]? = some m) (h:m.testBit i=true):∃e∈o.after.toList,Region.binds .any e=true/\(i=e.on\/∃m', e.on < k/\(befs l [])[e.on]? = some m' /\ m'.testBit i=true):=by
 obtain⟨acc', k1,⟨t,k2⟩,rfl⟩:=Zk6 l [] k o m h1 (by simpa using h2);obtain⟨e,he,hb,hi⟩:=ZfN _ i h;refine⟨e,he,hb,hi.imp id λ hi => ?_⟩;rw[List.getD_eq_getElem?_getD]at hi
 cases hg:acc'[e.on]? with
 | none=>rw[hg]at hi;simp at hi
 | some m' =>
  rw[hg]at hi;have hlt:e.on < acc'.length:=by have:=List.getElem?_eq_some_iff.1 hg;exact this.1
  refine⟨m', by simpa [k1] using hlt,?_,hi⟩;rw[k2,List.getElem?_append_left hlt,hg]
end
abbrev msk (listed:Array Bool):Nat->Bool:=λ j=>listed.getD j false
theorem Zok {listed:Array Bool} {i:Nat} (hi:i < listed.size):msk (listed.setIfInBounds i true)=Chg.also (msk listed) i:=by
 funext j
 unfold msk Chg.also
 by_cases h:j=i
 ·subst h;simp[Array.getD_eq_getD_getElem?,hi]
 ·rw[if_neg h];simp[Array.getD_eq_getD_getElem?,Array.getElem?_setIfInBounds_ne (Ne.symm h)]
theorem Zf6 {ops:Array Oper} {listed:Array Bool} {i:Nat}:i∈Region.ready .any ops listed↔∃o,ops[i]? = some o/\listed.getD i true=false/\∀e∈o.after,Region.binds .any e=true->listed.getD e.on false=true:=by
 unfold Region.ready;rw[List.mem_filter,List.mem_range]
 constructor
 ·
  rintro⟨h1,h2⟩;rw[Bool.and_eq_true]at h2;obtain⟨h2,h3⟩:=h2;have ho:ops[i]? = some ops[i]:=Array.getElem?_eq_getElem h1;refine⟨_,ho,by simpa using h2,λ e he hb => ?_⟩;rw[ho]at h3;simp only[Option.map_some,Option.getD_some,Array.all_eq_true_iff_forall_mem]at h3;have:=h3 e he;rw[hb]at this
  simpa using this
 ·
  rintro⟨o,ho,h2,h3⟩;refine⟨(Array.getElem?_eq_some_iff.1 ho).1,?_⟩;rw[Bool.and_eq_true,ho];refine⟨by simp[h2],?_⟩;simp only[Option.map_some,Option.getD_some,Array.all_eq_true_iff_forall_mem];intro e he
  cases hb:Region.binds .any e with
  | false=>rfl
  | true=>simpa using h3 e he hb
section
variable {P:Program} {B:Nat->Prop} {n:Nat} {J:Rel} {a:Act} {w:World}
def Shut (ops:Array Oper) (m:Nat->Bool):Prop:=∀j o,ops[j]? = some o->m j=true->∀e∈o.after,Region.binds .any e=true->m e.on=true
theorem Zix {ops:Array Oper} {m:Nat->Bool} (hs:Shut ops m):∀(k:Nat) (o:Oper) (b i:Nat),ops[k]? = some o->(befs ops.toList [])[k]? = some b->(∀e∈o.after,Region.binds .any e=true->m e.on=true)->b.testBit i=true->m i=true:=by
 intro k
 induction k using Nat.strongRecOn with
 | _ k ih =>
  intro o b i ho hb he hi;obtain⟨e,h1,h2,h3⟩:=Zk7 (l:=ops.toList) (by simpa using ho) hb hi;have hme:=he e (by simpa using h1) h2;rcases h3 with rfl|⟨m', h4,h5,h6⟩
  ·exact hme
  ·
   cases hoe:ops[e.on]? with
   | none =>
    have:e.on < ops.size:=Nat.lt_trans h4 (Array.getElem?_eq_some_iff.1 ho).1;rw[Array.getElem?_eq_getElem this]at hoe;cases hoe
   | some o' => exact ih e.on h4 o' m' i hoe h5 (hs e.on o' hoe hme) h6
theorem Zh4 {ops:Array Oper} {ss:List Stp} {m i j:Nat} {b:Oper} {t:Stp} (hb:ops[j]? = some b) (ht:ss[j]? = some t) (h:∀a ta,ops.toList[i]? = some a->(ss.map λ s=>(s.need,s.tch))[i]? = some ta->Zio ops m a ta i b (t.need,t.tch)=true) (hm:m.testBit i=false):Frees ops ss i j:=by
 intro a b' s t' h1 h2 h3 h4;rw[hb]at h2
 cases h2
 rw[ht]at h4
 cases h4
 have:=h a (s.need,s.tch) (by simpa using h1) (by simp[h3]);unfold Zio at this;rw[hm,Bool.false_or,Bool.and_eq_true]at this;exact this
theorem Ze2 {a b:Trc} (h:free2 a b=true):(∀T∈a.2,T ∉ b.1/\T ∉ b.2)/\∀T∈a.1,T ∉ b.2:=by
 unfold free2 at h;rw[Bool.and_eq_true,List.all_eq_true,List.all_eq_true]at h;refine⟨λ T hT => ?_,λ T hT => ?_⟩
 ·simpa using h.1 T hT
 ·simpa using h.2 T hT
theorem ZkR (hm:P.follows .mixedOrders=true) (hJ:Stays J) (hJd:∀{ρ Z ob w},J ρ Z ob w->J ρ Z ob { w with drawn:=w.drawn+1 }) {id:Nat} {ops:Array Oper} {Q:Exit->Act->World->Prop} {σ σ' : St} {ss:List Stp} (hc:Chain P B n ops ops.toList σ ss σ')
  (hb:bern ops (ss.map λ s=>(s.need,s.tch))=true) (h:HldS P B n J σ a w) (hQ:∀a w,HldS P B n J σ' a w->Q .normal a w):(Code.region id ops true).wp P Q a w:=by
 obtain⟨c1,c2,c3,c4,c5,c6⟩:=ZjC _ _ _ _ hc;have c1:ss.length=ops.size:=by simpa using c1
 have hsome:∀k,k < ops.size->∃o s,ops[k]? = some o/\ss[k]? = some s:=λ k hk=>⟨_,_,Array.getElem?_eq_getElem hk,List.getElem?_eq_getElem (by omega)⟩
 have hbern:∀k o s,ops[k]? = some o->ss[k]? = some s->(∀e∈o.after,Region.binds .any e=true->e.on < k)/\∃m,(befs ops.toList [])[k]? = some m/\∀i,i < k->m.testBit i=false->Frees ops ss i k:=λ k o s ho hs=>by
  obtain⟨g1,m,g2,g3⟩:=ZhL _ _ _ 0 hb k o (s.need,s.tch) (by simpa using ho) (by simp[hs]);rw[Nat.zero_add]at g1 g3;refine⟨λ e he hbd => ?_,m,g2,λ i hi=>Zh4 ho hs λ a ta h1 h2=>g3 i a ta hi h1 h2⟩;rw[Array.all_eq_true_iff_forall_mem]at g1;have:=g1 e he;rw[hbd]at this
  simpa using this
 let I:(Nat->Bool)->Act->World->Prop:=λ m a w=>Hld P B n J (Chg.fold m 0 (ss.map Stp.fchg) (lookF σ.fr)) (Chg.fold m 0 (ss.map Stp.ochg) (look σ.ob)) (λ T => σ.nx<=T/\∀(j:Nat) s,ss[j]? = some s->m j=true->¬ (s.lo<=T/\T < s.hi)) a w
 have hend:∀m a w,(∀j,j < ops.size->m j=true)->I m a w->Q .normal a w:=λ m a w hall hI=>by
  refine hQ a w ?_;show Hld P B n J (lookF σ'.fr) (look σ'.ob) _ a w;rw[c3,c4,<-Chg.fold_all (m:=m) (ss.map Stp.ochg) 0 _ (λ j hj=>by rw[Nat.zero_add];exact hall j (by simpa [c1] using hj)),<-Chg.fold_all (m:=m) (ss.map Stp.fchg) 0 _ (λ j hj=>by rw[Nat.zero_add];exact hall j (by simpa [c1] using hj))];refine Hld.less hI λ T (hT : σ'.nx<=T)=>⟨Nat.le_trans c2 hT,λ j s hs _ hr => ?_⟩
  have:=(c5 j s hs).2;omega
 have hstep:∀(m:Nat->Bool) (k:Nat) (o:Oper) (a:Act) (w:World),Shut ops m->ops[k]? = some o->m k=false->(∀e∈o.after,Region.binds .any e=true->m e.on=true)->I m a w->∀(K:Act->World->Prop),(∀a w,I (Chg.also m k) a w->K a w)->wpOp P ops Q k K a w:=by
  intro m k o a w hsh ho hmk hed hI K hK;have hk:=(Array.getElem?_eq_some_iff.1 ho).1;obtain⟨_,s,_,hs⟩:=hsome k hk;obtain⟨b1,mk,b2,b3⟩:=hbern k o s ho hs;obtain⟨σk,d1,d2,d3,d4⟩:=c6 k o s (by simpa using ho) hs;have before:∀j,j < k->m j=false->Frees ops ss j k:=λ j hj hmj=>b3 j hj (by
   cases ht:mk.testBit j with
   | false=>rfl
   | true=>rw[Zix hsh k o mk j ho b2 hed ht]at hmj;cases hmj)
  have behind:∀j,k < j->m j=true->j < ops.size->Frees ops ss k j:=λ j hj hmj hjs=>by
   obtain⟨o', s', ho', hs'⟩:=hsome j hjs;obtain⟨_,mj,e2,e3⟩:=hbern j o' s' ho' hs';refine e3 k hj ?_
   cases ht:mj.testBit k with
   | false=>rfl
   | true=>rw[Zix hsh j o' mj k ho' e2 (hsh j o' ho' hmj) ht]at hmk;cases hmk
  have get:∀{β : Type} (f:Stp->Chg β) {j:Nat} {c:Chg β},(ss.map f)[j]? = some c->∃o' s', ops[j]? = some o' /\ ss[j]? = some s' /\ c=f s' := λ {β} f {j c} hc=>by
   rw[List.getElem?_map]at hc
   cases hj:ss[j]? with
   | none=>rw[hj]at hc;cases hc
   | some s' =>
    rw[hj]at hc
    cases hc
    have:j < ops.size:=c1 ▸ (List.getElem?_eq_some_iff.1 hj).1;exact⟨_,s', Array.getElem?_eq_getElem this,rfl,rfl⟩
  refine Zmx ho (Zkf hJ d1 hI (λ T hT => ?_) (λ t ht => ?_) (λ T h1 h2=>⟨Nat.le_trans (c5 k s hs).1 h1,λ j s' hs' hmj hr => ?_⟩) λ a' w' h' => hK a' w' ?_)
  ·
   show Chg.fold m 0 (ss.map Stp.ochg) (look σ.ob) T=look σk.ob T;rw[d2];refine Chg.fold_look (λ j c hj hc hmj ht => ?_) λ j c hj hc hmj ht => ?_
   ·obtain⟨o', s', ho', hs', rfl⟩:=get _ hc;have hf:=Ze2 (before j hj hmj o' o s' s ho' ho hs' hs).2;have ht:T∈s'.tch:=ht;exact(List.mem_append.1 hT).elim (hf.1 T ht).1 (hf.1 T ht).2
   ·
    obtain⟨o', s', ho', hs', rfl⟩:=get _ hc;have hne:k≠j:=λ e=>by rw[e,hmj]at hmk;cases hmk
    have hf:=Ze2 (behind j (by omega) hmj (Array.getElem?_eq_some_iff.1 ho').1 o o' s s' ho ho' hs hs').2;have ht:T∈s'.tch:=ht;exact(List.mem_append.1 hT).elim (λ h=>hf.2 T h ht) λ h=>(hf.1 T h).2 ht
  ·
   show Chg.fold m 0 (ss.map Stp.fchg) (lookF σ.fr) t=lookF σk.fr t;rw[d3];refine Chg.fold_look (λ j c hj hc hmj htc => ?_) λ j c hj hc hmj htc => ?_
   ·obtain⟨o', s', ho', hs', rfl⟩:=get _ hc;have hf:=Oper.apart_spec (before j hj hmj o' o s' s ho' ho hs' hs).1;have htc:s'.dst=some t:=htc;obtain⟨σj,e1,_⟩:=c6 j o' s' (by simpa using ho') hs';exact hf.1 t (e1.dst ▸ htc) ht
   ·
    obtain⟨o', s', ho', hs', rfl⟩:=get _ hc;have hne:k≠j:=λ e=>by rw[e,hmj]at hmk;cases hmk
    have hf:=Oper.apart_spec (behind j (by omega) hmj (Array.getElem?_eq_some_iff.1 ho').1 o o' s s' ho ho' hs hs').1;have htc:s'.dst=some t:=htc;obtain⟨σj,e1,_⟩:=c6 j o' s' (by simpa using ho') hs';exact hf.2.2 t (e1.dst ▸ htc) ht
  ·
   have hjs:j < ops.size:=c1 ▸ (List.getElem?_eq_some_iff.1 hs').1;obtain⟨o', _,ho', _⟩:=hsome j hjs;obtain⟨_,_,_,_,e4⟩:=c6 j o' s' (by simpa using ho') hs';rcases Nat.lt_trichotomy j k with hjk|rfl|hjk
   ·have:=d4 j s' hjk hs';omega
   ·rw[hmj]at hmk;cases hmk
   ·have:=e4 k s hjk hs;omega
  ·
   have e1:Chg.fold (Chg.also m k) 0 (ss.map Stp.ochg) (look σ.ob)=s.ochg.ap (Chg.fold m 0 (ss.map Stp.ochg) (look σ.ob)):=Chg.fold_also (by simp[hs]) λ j c hj hc hmj T hT ht=>by obtain⟨o', s', ho', hs', rfl⟩:=get _ hc;exact((Ze2 (behind j hj hmj (Array.getElem?_eq_some_iff.1 ho').1 o o' s s' ho ho' hs hs').2).1 T hT).2 ht
   have e2:Chg.fold (Chg.also m k) 0 (ss.map Stp.fchg) (lookF σ.fr)=s.fchg.ap (Chg.fold m 0 (ss.map Stp.fchg) (lookF σ.fr)):=Chg.fold_also (by simp[hs]) λ j c hj hc hmj T hT ht=>by obtain⟨o', s', ho', hs', rfl⟩:=get _ hc;have hf:=Oper.apart_spec (behind j hj hmj (Array.getElem?_eq_some_iff.1 ho').1 o o' s s' ho ho' hs hs').1;have ht:s'.dst=some T:=ht;have hT:s.dst=some T:=hT;obtain⟨σj,f1,_⟩:=c6 j o' s' (by simpa using ho') hs';exact hf.2.1 T (d1.dst ▸ hT) (f1.dst ▸ ht)
   show Hld P B n J _ _ _ a' w';rw[e1,e2];refine h'.less λ T hT=>⟨⟨hT.1,λ j s' hs' hmj=>hT.2 j s' hs' ?_⟩,hT.2 k s hs (if_pos rfl)⟩
   unfold Chg.also
   split
   ·rfl
   ·exact hmj
 have main:∀(fuel:Nat) (listed:Array Bool) (a:Act) (w:World),listed.size=ops.size->Shut ops (msk listed)->cnt (msk listed) ops.size<=fuel->I (msk listed) a w->wpAny P .any ops Q fuel listed a w:=by
  intro fuel
  induction fuel with
  | zero =>
   intro listed a w hsz hsh hcn hI;have hall:=ZjH (Nat.le_zero.1 hcn);refine⟨List.eq_nil_iff_forall_not_mem.2 λ i hi => ?_,hend _ a w hall hI⟩;obtain⟨o,h1,h2,_⟩:=Zf6.1 hi;have hi' := (Array.getElem?_eq_some_iff.1 h1).1;have:=hall i hi';unfold msk at this;simp[Array.getD_eq_getD_getElem?,hsz ▸ hi']at this h2;rw[this]at h2;cases h2
  | succ fuel ih =>
   intro listed a w hsz hsh hcn hI;refine⟨λ hnil=>hend _ a w (λ j => ?_) hI,λ i hi => ?_⟩
   ·
    induction j using Nat.strongRecOn with
    | _ j ihj =>
     intro hj
     cases hmj:msk listed j with
     | true=>rfl
     | false =>
      exfalso
      obtain⟨o,s,ho,hs⟩:=hsome j hj;have:j∈Region.ready .any ops listed:=Zf6.2 ⟨o,ho,by
       unfold msk at hmj
       simpa [Array.getD_eq_getD_getElem?,hsz ▸ hj] using hmj,λ e he hb=>by
       have hlt:=(hbern j o s ho hs).1 e he hb;exact ihj e.on hlt (Nat.lt_trans hlt hj)⟩
      rw[hnil]at this
      cases this
   ·
    obtain⟨o,h1,h2,h3⟩:=Zf6.1 hi;have hi' := (Array.getElem?_eq_some_iff.1 h1).1;have hmi:msk listed i=false:=by
     unfold msk
     simpa [Array.getD_eq_getD_getElem?,hsz ▸ hi'] using h2
    have hset:=Zok (listed:=listed) (i:=i) (hsz ▸ hi');refine hstep (msk listed) i o a w hsh h1 hmi h3 hI _ λ a' w' hI' => ih _ a' w' (by simpa using hsz) ?_ ?_ (hset ▸ hI')
    ·
     rw[hset];intro j o' ho' hmj e he hb;unfold Chg.also at hmj ⊢
     split
     ·rfl
     ·
      split at hmj
      ·
       rename_i hji
       subst hji;rw[h1]at ho'
       cases ho'
       exact h3 e he hb
      ·exact hsh j o' ho' hmj e he hb
    ·rw[hset];have:=ZjG hmi hi';omega
 have hno:∀j,msk (Array.replicate ops.size false) j=false:=λ j=>by
  unfold msk;simp only[Array.getD_eq_getD_getElem?,Array.getElem?_replicate]
  split <;> rfl
 refine wp_region_any hm (main ops.size _ a _ (by simp) (λ j o ho hmj=>by rw[hno j]at hmj;cases hmj) (Zns _) ?_)
 show Hld P B n J _ _ _ a _;rw[Chg.fold_none _ _ _ λ j _=>hno j,Chg.fold_none _ _ _ λ j _=>hno j];obtain⟨ρ,Z,L,h1,h2,h3,h4,h5,h6,h7⟩:=h;have ht:Trn ρ Z (look σ.ob) w ρ Z (look σ.ob) { w with drawn:=w.drawn+1 }:=⟨rfl,rfl,rfl,Nat.le_refl _,λ _ _ _=>rfl,λ _ h => .inl h,λ _ h => .inl h,λ _ h=>h,λ _ z h=>⟨z,h,rfl⟩⟩
 have hf:=ht.fut h2;refine⟨ρ,Z,L,h1,?_,hJd h3,λ t av hav=>(h4 t av hav).fut hf,h5,h6,λ T hT=>h7 T hT.1⟩;exact Zia h2 (λ _=>False) hf (λ _ _ => .inl rfl) (λ _ _=>rfl) (λ T z _ h8 h9=>⟨λ _ _=>rfl,λ k hk=>(h2.zsep k ⟨T,z,h8,h9,hk⟩).1⟩) (λ _ _ h=>h.elim) (λ _ _ _ h=>h.elim) (Nat.le_refl _) h2.zlt
end
structure Bas (pin:Nat) (ρ : Rz) (Z:Nat->Prop) (ob:Obs) (w:World) (ρ' : Rz) (Z' : Nat->Prop) (ob' : Obs) (w' : World):Prop where
 os:w'.os=w.os
 tape:w'.tape=w.tape
 output:w'.output=w.output
 size:w.heap.size<=w'.heap.size
 old:∀k,k < w.heap.size->¬ Own ρ ob k->w'.heap[k]? = w.heap[k]?
 own:∀k,Own ρ' ob' k->Own ρ ob k\/w.heap.size<=k
 zn:∀k,Z' k->Z k\/Own ρ ob k\/w.heap.size<=k
 zm:∀k,Z k->Z' k
 hdr:∀T z,T < pin -> ρ T=some z->∃z', ρ' T=some z' /\ z'.hdr=z.hdr
section
variable {pin:Nat} {ρ ρ' ρ'' : Rz} {Z Z' Z'' : Nat->Prop} {ob ob' ob'' : Obs} {w w' w'' : World}
theorem Bas.refl:Bas pin ρ Z ob w ρ Z ob w:=⟨rfl,rfl,rfl,Nat.le_refl _,λ _ _ _=>rfl,λ _ h => .inl h,λ _ h => .inl h,λ _ h=>h,λ _ z _ h=>⟨z,h,rfl⟩⟩
theorem Bas.trn (h:Bas pin ρ Z ob w ρ' Z' ob' w') (h' : Trn ρ' Z' ob' w' ρ'' Z'' ob'' w''):Bas pin ρ Z ob w ρ'' Z'' ob'' w'' where
 os:=h'.os.trans h.os
 tape:=h'.tape.trans h.tape
 output:=h'.output.trans h.output
 size:=Nat.le_trans h.size h'.size
 old:=λ k hk hn=>(h'.old k (Nat.lt_of_lt_of_le hk h.size) λ ho=>(h.own k ho).elim hn λ h=>by omega).trans (h.old k hk hn)
 own:=λ k hk=>(h'.own k hk).elim (h.own k) λ h1 => .inr (Nat.le_trans h.size h1)
 zn:=λ k hk=>(h'.zn k hk).elim (h.zn k) λ h1=>h1.elim (λ h2 => .inr (h.own k h2)) λ h2 => .inr (.inr (Nat.le_trans h.size h2))
 zm:=λ k hk=>h'.zm k (h.zm k hk)
 hdr:=λ T z hT hz=>by obtain⟨z', h1,h2⟩:=h.hdr T z hT hz;obtain⟨z'', h3,h4⟩:=h'.hdr T z' h1;exact⟨z'', h3,h4.trans h2⟩
theorem Bas.ren (h:Bas pin ρ Z ob w ρ' Z' ob' w') (h1:∀T,T < pin -> ρ'' T = ρ' T) (h2:∀k,Own ρ'' ob'' k->Own ρ' ob' k):Bas pin ρ Z ob w ρ'' Z' ob'' w' where
 os:=h.os
 tape:=h.tape
 output:=h.output
 size:=h.size
 old:=h.old
 own:=λ k hk=>h.own k (h2 k hk)
 zn:=h.zn
 zm:=h.zm
 hdr:=λ T z hT hz=>by obtain⟨z', h3,h4⟩:=h.hdr T z hT hz;exact⟨z', (h1 T hT).trans h3,h4⟩
end
theorem Zdg (ob:List (Nat×Ob)):∀(n:Nat) (l seen:List Nat),∃t,reach ob n l seen=seen++t
 | 0,_,seen=>⟨[],by simp[reach]⟩
 | n+1,[],seen=>⟨[],by simp[reach]⟩
 | n+1,T :: r,seen=>by
  unfold reach
  cases seen.contains T with
  | true=>exact Zdg ob n r seen
  | false =>
   simp only[cond_false]
   split
   ·obtain⟨t,ht⟩:=Zdg ob n (r++Zfc _) (seen++[T]);exact⟨[T]++t,by rw[ht];simp⟩
   ·obtain⟨t,ht⟩:=Zdg ob n r (seen++[T]);exact⟨[T]++t,by rw[ht];simp⟩
   ·obtain⟨t,ht⟩:=Zdg ob n (r++vals _) (seen++[T]);exact⟨[T]++t,by rw[ht];simp⟩
   ·exact Zdg ob n r seen
theorem ZcA (ob:List (Nat×Ob)):∀(n:Nat) (l seen:List Nat),seen.Nodup->(reach ob n l seen).Nodup
 | 0,_,seen,h=>by simpa [reach] using h
 | n+1,[],seen,h=>by simpa [reach] using h
 | n+1,T :: r,seen,h=>by
  unfold reach
  cases hc:seen.contains T with
  | true=>exact ZcA ob n r seen h
  | false =>
   have h' : (seen++[T]).Nodup:=by rw[List.nodup_append];refine⟨h,by simp,λ a ha b hb => ?_⟩;rw[List.mem_singleton.1 hb];intro e;subst e;simp at hc;exact hc ha
   simp only[cond_false]
   split
   ·exact ZcA ob n _ _ h'
   ·exact ZcA ob n _ _ h'
   ·exact ZcA ob n _ _ h'
   ·exact ZcA ob n _ _ h
theorem ZgK {T:Nat}:∀{s:List Nat} {i k:Nat},posOf T s i=some k->∃j,k=i+j/\s[j]? = some T
 | [],_,_,h=>by cases h
 | U :: r,i,k,h=>by
  unfold posOf at h
  cases hb:Nat.beq T U with
  | true =>
   rw[hb]at h
   cases h
   obtain rfl:=Nat.eq_of_beq_eq_true hb;exact⟨0,rfl,rfl⟩
  | false =>
   rw[hb]at h;obtain⟨j,h1,h2⟩:=ZgK (s:=r) h;exact⟨j+1,by omega,by simpa using h2⟩
section
variable {P:Program} {B Z:Nat->Prop} {ρ : Rz} {w:World} {s:List Nat}
def renR (s:List Nat) (ρ : Rz):Rz:=λ i=>(s[i]?).bind ρ
theorem Zdw {T i:Nat} (h:posOf T s 0=some i):renR s ρ i = ρ T:=by obtain⟨j,h1,h2⟩:=ZgK h;rw[Nat.zero_add]at h1;subst h1;unfold renR;rw[h2];rfl
theorem CapsR.ren:∀{caps c:List (Nat×Nat)} {vs:List Value},Zhu s caps=some c->CapsR ρ caps vs->CapsR (renR s ρ) c vs
 | [],c,vs,h,hc=>by cases h;exact hc
 | (T,o) :: r,c,vs,h,⟨v,vs', h1,⟨z,g,h2,h3,h4⟩,h5⟩=>by
  unfold Zhu at h
  split at h
  ·
   rename_i i l hi hl
   cases h
   exact⟨v,vs', h1,⟨z,g,(Zdw hi).trans h2,h3,h4⟩,CapsR.ren hl h5⟩
  ·cases h
theorem LR.ren {v:Value}:∀{l:Lf},LR P B ρ Z w l v->LR P B (renR s ρ) Z w (renLf s l) v
 | .int _ _,h=>h
 | .cnd _ _ _,h=>h
 | .str _,h=>h
 | .raw _,h=>h
 | .sl _ _,h=>h
 | .nil,h=>h
 | .own T,h=>by
  unfold renLf;simp only
  split
  ·
   rename_i i hi
   obtain⟨z,h1,h2⟩:=h;exact⟨z,(Zdw hi).trans h1,h2⟩
  ·exact h.one rfl
 | .sub T j,h=>by
  unfold renLf;simp only
  split
  ·
   rename_i i hi
   obtain⟨z,g,n,c,h1,h2⟩:=h;exact⟨z,g,n,c,(Zdw hi).trans h1,h2⟩
  ·exact LR.one (P:=P) (B:=B) (ρ := ρ) (Z:=Z) (w:=w) (l := .sub T j) h rfl
 | .box T o,h=>by
  unfold renLf;simp only
  split
  ·
   rename_i i hi
   obtain⟨z,g,h1,h2⟩:=h;exact⟨z,g,(Zdw hi).trans h1,h2⟩
  ·exact LR.one (P:=P) (B:=B) (ρ := ρ) (Z:=Z) (w:=w) (l := .box T o) h rfl
 | .elt T i z o,h=>by
  unfold renLf;simp only
  split
  ·
   rename_i j hj
   obtain⟨z,g,n,c,h1,h2⟩:=h;exact⟨z,g,n,c,(Zdw hj).trans h1,h2⟩
  ·exact h.one rfl
 | .vpt _ _ _,h=>h
 | .fn _ _ _,h=>h
 | .clo g caps,h=>by
  unfold renLf;simp only
  split
  ·
   rename_i c hc
   obtain⟨vs,h1,h2⟩:=h;exact⟨vs,h1,h2.ren hc⟩
  ·exact h.one rfl
 | .undef,h=>h
 | .top,h=>h
 | .emp _,h=>h
 | .pre T j,h=>by
  unfold renLf;simp only
  split
  ·
   rename_i i hi
   obtain⟨z,g,n,c,h1,h2⟩:=h;exact⟨z,g,n,c,(Zdw hi).trans h1,h2⟩
  ·exact LR.one (P:=P) (B:=B) (ρ := ρ) (Z:=Z) (w:=w) (l := .pre T j) h rfl
theorem LRs.ren:∀{ls:List Lf} {vs:List Value},LRs P B ρ Z w ls vs->LRs P B (renR s ρ) Z w (Zgg s ls) vs
 | [],_,h=>h
 | l :: r,_,⟨v,vs', h1,h2,h3⟩=>⟨v,vs', h1,h2.ren,LRs.ren h3⟩
theorem TupR.ren:∀{ps:List (Bool×List Lf)} {vs:List Value},TupR P B ρ Z w ps vs->TupR P B (renR s ρ) Z w (Zma s ps) vs
 | [],_,h=>h
 | (b,ls) :: r,_,⟨v,vs', cs,h1,h2,h3,h4⟩=>⟨v,vs', cs,h1,h2.ren,h3,TupR.ren h4⟩
theorem AR.ren {v:Value}:∀{av:AV},AR P B ρ Z w av v->AR P B (renR s ρ) Z w (renAV s av) v
 | .lf _,h=>LR.ren h
 | .agg _,⟨vs,h1,h2⟩=>⟨vs,h1,h2.ren⟩
 | .tup _,⟨vs,h1,h2⟩=>⟨vs,h1,h2.ren⟩
theorem Zm8:∀{l:Lf},l.ok=true->(renLf s l).ok=true
 | .int _ _,h=>h
 | .cnd _ _ _,h=>h
 | .str _,h=>h
 | .raw _,h=>h
 | .sl _ _,h=>h
 | .nil,h=>h
 | .own T,h=>by unfold renLf;simp only;split <;> rfl
 | .sub T _,h=>by unfold renLf;simp only;split <;> rfl
 | .pre T _,h=>by unfold renLf;simp only;split <;> rfl
 | .box T _,h=>by unfold renLf;simp only;split <;> rfl
 | .elt T _ _ _,h=>by unfold renLf;simp only;split <;> rfl
 | .vpt _ _ _,h=>h
 | .fn _ _ _,h=>h
 | .clo _ _,h=>by unfold renLf;simp only;split <;> rfl
 | .undef,h=>h
 | .top,h=>h
 | .emp _,h=>h
theorem Zit:∀{ls:List Lf},lfsOk ls=true->lfsOk (Zgg s ls)=true
 | [],h=>h
 | l :: r,h=>by simp only[Zgg,lfsOk,Bool.and_eq_true]at h ⊢;exact⟨Zm8 h.1,Zit h.2⟩
theorem ZgM {s:List Nat}:∀{hl l:List (Nat×Nat)},renHs s hl=some l->keys l=keys hl/\∀j i,(j,i)∈l->∃n,(j,n)∈hl/\posOf n s 0=some i
 | [],l,h=>by cases h;exact⟨rfl,λ _ _ h=>by cases h⟩
 | (j,n) :: r,l,h=>by
  unfold renHs at h
  split at h
  ·
   rename_i i l' h1 h2
   cases h
   obtain⟨k1,k2⟩:=ZgM h2;refine⟨by simp only[keys,k1],λ j' i' hj => ?_⟩;rcases List.mem_cons.1 hj with e|hj
   ·cases e;exact⟨n,List.mem_cons_self,h1⟩
   ·obtain⟨n', g1,g2⟩:=k2 j' i' hj;exact⟨n', List.mem_cons_of_mem _ g1,g2⟩
  ·cases h
theorem OR.ren {o o' : Ob} {z:Rzv} (h:OR P B ρ Z w o z) (he:renOb s o=some o'):OR P B (renR s ρ) Z w o' z:=by
 cases o with
 | box t ro cells =>
  cases he
  obtain⟨g,vs,h1,h2,h3,h4,h5⟩:=h;exact⟨g,vs,h1,h2,h3.ren,Zit h4,h5⟩
 | row e m t xs=>cases he;exact h
 | hole e t xs hl =>
  unfold renOb at he;simp only at he
  split at he
  ·
   rename_i l hl'
   cases he
   obtain⟨inner,h2,h3,h4,h4', Fs,h5,h6,h7⟩:=h;obtain⟨k1,k2⟩:=ZgM hl';exact⟨inner,h2,h3,k1 ▸ h4,λ j i hj=>by obtain⟨n,n1,n2⟩:=k2 j i hj;obtain⟨v,⟨zn,g1,g2⟩,g3⟩:=h4' j n n1;exact⟨v,⟨zn,(Zdw n2).trans g1,g2⟩,g3⟩,Fs,k1 ▸ h5,k1 ▸ h6,k1 ▸ h7⟩
  ·cases he
theorem ZjZ (t:Nat):∀fr:List (Nat×AV),lk t (renFr s fr)=(lk t fr).map (renAV s)
 | []=>rfl
 | (n,v) :: r=>by
  by_cases h:t=n
  ·subst h;simp[renFr,lk]
  ·simp[renFr,lk,ZbM h,ZjZ t r]
theorem Zi0 (t:Nat) (fr:List (Nat×AV)):∀(live:List Nat) (v:AV),lk t (keep fr live)=some v->lk t fr=some v
 | [],v,h=>by cases h
 | n :: r,v,h=>by
  unfold keep at h
  split at h
  ·
   rename_i v' hv
   by_cases hn:t=n
   ·subst hn;simp[lk]at h;rw[hv,h]
   ·simp[lk,ZbM hn]at h;exact Zi0 t fr r v h
  ·exact Zi0 t fr r v h
theorem ZeF (ob:List (Nat×Ob)):∀(l:List Nat) (i k:Nat) (o:Ob),lk k (Zc7 s ob l i)=some o->∃j T o', k=i+j/\l[j]? = some T/\lk T ob=some o' /\ renOb s o' = some o
 | [],_,_,_,h=>by cases h
 | T :: r,i,k,o,h=>by
  unfold Zc7 at h;have next:lk k (Zc7 s ob r (i+1))=some o->∃j T' o', k=i+j/\(T :: r)[j]? = some T' /\ lk T' ob=some o' /\ renOb s o' = some o:=λ h=>by obtain⟨j,T', o', h1,h2,h3⟩:=ZeF ob r (i+1) k o h;exact⟨j+1,T', o', by omega,by simpa using h2,h3⟩
  split at h
  ·
   rename_i o' ho
   by_cases hk:k=i
   ·
    subst hk;simp[lk]at h
    cases hT:lk T ob with
    | none=>rw[hT]at ho;cases ho
    | some o2 =>
     rw[hT]at ho;exact⟨0,T,o2,rfl,rfl,hT,ho.trans (by rw[h])⟩
   ·simp[lk,ZbM hk]at h;exact next h
  ·exact next h
theorem Zmc {ob:List (Nat×Ob)} {k:Nat} (h:Own (renR s ρ) (look (Zc7 s ob s 0)) k):∃(i T:Nat) (z:Rzv),s[i]? = some T/\(lk T ob).isSome=true /\ ρ T=some z/\z.F k:=by
 obtain⟨i,z,h1,h2,h3⟩:=h;have h1:(lk i (Zc7 s ob s 0)).isSome=true:=h1
 cases hl:lk i (Zc7 s ob s 0)with
 | none=>rw[hl]at h1;cases h1
 | some o =>
  obtain⟨j,T,o', e,g2,g3,_⟩:=ZeF ob s 0 i o hl;have e:i=j:=by omega
  subst e;unfold renR at h2;rw[g2]at h2;exact⟨i,T,z,g2,by rw[g3];rfl,h2,h3⟩
theorem Zoi {ob:List (Nat×Ob)} (hn:s.Nodup) (hm:Mem P B ρ Z (look ob) w):Mem P B (renR s ρ) Z (look (Zc7 s ob s 0)) w:=by
 have get:∀i z,(lk i (Zc7 s ob s 0)).isSome=true->renR s ρ i=some z->∃T,s[i]? = some T/\(lk T ob).isSome=true /\ ρ T=some z:=λ i z h1 h2=>by
  cases hl:lk i (Zc7 s ob s 0)with
  | none=>rw[hl]at h1;cases h1
  | some o =>
   obtain⟨j,T,o', e,g2,g3,_⟩:=ZeF ob s 0 i o hl;have e:i=j:=by omega
   subst e;unfold renR at h2;rw[g2]at h2;exact⟨T,g2,by rw[g3];rfl,h2⟩
 have own:∀k,Own (renR s ρ) (look (Zc7 s ob s 0)) k->Own ρ (look ob) k:=λ k hk=>by obtain⟨i,T,z,_,h2,h3,h4⟩:=Zmc hk;exact⟨T,z,h2,h3,h4⟩
 refine⟨λ i o ho => ?_,λ i j z z' k hne h1 h2 h3 h4 h5 h6 => ?_,λ k hk=>hm.zsep k (own k hk),hm.zlt,λ k hk=>hm.bsep k (own k hk),hm.blt⟩
 ·
  obtain⟨j,T,o', e,g2,g3,g4⟩:=ZeF ob s 0 i o ho;have e:i=j:=by omega
  subst e;obtain⟨z,k1,k2⟩:=hm.obj T o' g3;exact⟨z,by unfold renR;rw[g2];exact k1,k2.ren g4⟩
 ·obtain⟨T,a1,a2,a3⟩:=get i z h1 h3;obtain⟨U,b1,b2,b3⟩:=get j z' h2 h4;refine hm.sep T U z z' k (λ e=>hne ?_) a2 b2 a3 b3 h5 h6;subst e;have hi:=(List.getElem?_eq_some_iff.1 a1).1;have hj:=(List.getElem?_eq_some_iff.1 b1).1;exact(List.getElem?_inj hi hn).1 (a1.trans b1.symm)
end
section
variable {P:Program} {B:Nat->Prop} {n pin:Nat} {ρ0:Rz} {Z0:Nat->Prop} {ob0:Obs} {w0:World} {a:Act} {w:World}
abbrev At (P:Program) (B:Nat->Prop) (n pin:Nat) (ρ0:Rz) (Z0:Nat->Prop) (ob0:Obs) (w0:World) (σ : St) (a:Act) (w:World):Prop:=HldS P B n (Bas pin ρ0 Z0 ob0 w0) σ a w
theorem Zi2 {σ : St} (h:At P B n pin ρ0 Z0 ob0 w0 σ a w) (live:List Nat):At P B n pin ρ0 Z0 ob0 w0 (σ.norm pin live) a w:=by
 obtain⟨ρ,Z,L,h1,h2,h3,h4,h5,h6,h7⟩:=h;have e:∃l,σ.norm pin live=⟨renFr (reach σ.ob 100000 l (List.range pin)) (keep σ.fr live),Zc7 (reach σ.ob 100000 l (List.range pin)) σ.ob (reach σ.ob 100000 l (List.range pin)) 0,(reach σ.ob 100000 l (List.range pin)).length⟩:=⟨_,rfl⟩
 obtain⟨l,e⟩:=e;rw[e]
 generalize hs:reach σ.ob 100000 l (List.range pin)=s
 have hn:s.Nodup:=hs ▸ ZcA σ.ob 100000 l _ List.nodup_range;obtain⟨t,ht⟩:=Zdg σ.ob 100000 l (List.range pin);rw[hs]at ht;refine⟨renR s ρ,Z,_,rfl,Zoi hn h2,h3.ren (λ T hT => ?_) (λ k hk => ?_),λ t av hav => ?_,h5,h6,λ T (hT:s.length<=T) => ?_⟩
 ·
  unfold renR;rw[ht,List.getElem?_append_left (by simpa using hT),List.getElem?_range hT]
  rfl
 ·obtain⟨i,T,z,_,g2,g3,g4⟩:=Zmc hk;exact⟨T,z,g2,g3,g4⟩
 ·
  have hav:lk t (renFr s (keep σ.fr live))=some av:=hav;rw[ZjZ]at hav
  cases hk:lk t (keep σ.fr live)with
  | none=>rw[hk]at hav;cases hav
  | some v =>
   rw[hk]at hav
   cases hav
   exact(h4 t v (Zi0 t σ.fr live v hk)).ren
 ·unfold renR;rw[List.getElem?_eq_none hT];rfl
theorem Zfi (lv:List Nat) (T:Nat) (e e' : TypeId) (t:Ty):∀(hl:List (Nat×Nat)) (xs:List (List t.den)) (ob:List (Nat×Ob)) (ρ : Rz) (Z:Nat->Prop),lk T ob=some (.hole e (.sl e' t) xs hl)->Mem P B ρ Z (look ob) w->∃ρ', Mem P B ρ' Z (look (Zgs lv T e e' t hl xs ob)) w/\Trn ρ Z (look ob) w ρ' Z (look (Zgs lv T e e' t hl xs ob)) w/\∀U,ρ U=none -> ρ' U=none
 | [],xs,ob,ρ,Z,ho,hm=>by
  unfold Zgs;obtain⟨z,hz,inner,h2,h3,_,h4,Fs,h5,h6,h7⟩:=hm.obj T _ ho;have hTs:(lk T ob).isSome=true:=by rw[ho];rfl
  have hal:Alive ob [T]:=λ U hU=>by rw[List.mem_singleton.1 hU];exact hTs
  have hOf:∀k,z.F k->Of ρ [T] k:=λ k hk=>⟨T,z,by simp,hz,hk⟩
  obtain⟨m1,m2⟩:=Ze6 hm (n:=T) (o := .row e true (.sl e' t) xs) (z:=z) (c:=[T]) (del:=[]) (w' := w) hal
   (λ U hU => .inl (List.mem_singleton.1 hU)) (λ h=>by cases h) (λ z0 h=>by rw[hz]at h;cases h;rfl) rfl rfl rfl (Nat.le_refl _)
   (λ _ z0 h k hk=>by rw[hz]at h;cases h;exact hOf k hk) (λ _ _ _=>rfl) (λ k hk=>⟨.inl (hOf k hk),(hm.zsep k ((hOf k hk).own hal)).2⟩)
   ⟨inner,h2,h3,Fs,λ i p hp=>h5 i p (by simp[keys]) hp,λ i k hk=>h6 i k (by simp[keys]) hk,λ a b k hab hk=>h7 a b k hab (by simp[keys]) (by simp[keys]) hk⟩
  refine⟨_,m1,m2,λ U hU => ?_⟩;unfold upd;rw[if_neg λ e=>by rw[e,hz]at hU;cases hU];exact hU
 | (j, n) :: r,xs,ob,ρ,Z,ho,hm=>by
  have hno:∃ρ', Mem P B ρ' Z (look ob) w/\Trn ρ Z (look ob) w ρ' Z (look ob) w/\∀U,ρ U=none -> ρ' U=none:=⟨ρ,hm,Trn.refl _ _ _ _,λ _ h=>h⟩
  unfold Zgs
  split
  ·
   rename_i e2 t2 ys hn
   split
   ·
    rename_i hh _
    cases hc:Nat.beq e2 e' && !(Nat.beq n T) && !(nf e') && !(lv.contains n)with
    | false=>exact hno
    | true =>
     rw[Bool.and_eq_true,Bool.and_eq_true,Bool.and_eq_true,Bool.not_eq_true', Bool.not_eq_true']at hc;obtain⟨⟨⟨he,hne⟩,hnf⟩,_⟩:=hc;obtain rfl:=Nat.eq_of_beq_eq_true he;obtain⟨hh⟩:=hh;subst hh;have hnT:n≠T:=λ e=>by subst e;simp at hne
     obtain⟨z,hz,inner,h2,h3,hnd,h4,Fs,h5,h6,h7⟩:=hm.obj T _ ho;have hnd:j ∉ keys r/\(keys r).Nodup:=List.nodup_cons.1 hnd;obtain⟨_,⟨zn,hzn,rfl,hone⟩,h4j⟩:=h4 j n List.mem_cons_self;obtain⟨zn', hzn', hrow⟩:=hm.obj n _ hn;obtain rfl:zn' = zn:=Option.some.inj (hzn'.symm.trans hzn);have hTs:(lk T ob).isSome=true:=by rw[ho];rfl
     have hns:(lk n ob).isSome=true:=by rw[hn];rfl
     have hsep:∀k,z.F k->¬ zn'.F k:=λ k hk hk' => hm.sep T n z zn' k (Ne.symm hnT) hTs hns hz hzn hk hk'
     have hOf:∀k,z.F k\/zn'.F k->Of ρ [T,n] k:=λ k hk=>hk.elim (λ h=>⟨T,z,by simp,hz,h⟩) λ h=>⟨n,zn', by simp,hzn,h⟩
     have hal:Alive ob [T,n]:=λ U hU=>by
      rcases List.mem_cons.1 hU with rfl|hU
      ·exact hTs
      ·rw[List.mem_singleton.1 hU];exact hns
     have hk2:∀i,i ∉ keys r->i≠j->i ∉ keys ((j,n) :: r):=λ i h1 h2 h=>(List.mem_cons.1 h).elim h2 h1
     obtain ⟨m1,m2⟩:=Ze6 hm (n:=T) (o := .hole e (.sl e2 t2) (List.set (α := List t2.den) xs j ys) r) (z:=⟨z.hdr,λ k=>z.F k\/zn'.F k⟩) (c:=[T,n]) (del:=[n]) (w' := w) hal
      (λ U hU=>(List.mem_cons.1 hU).imp id id) (λ h=>hnT (List.mem_singleton.1 h).symm) (λ z0 h=>by rw[hz]at h;cases h;rfl) rfl rfl rfl (Nat.le_refl _)
      (λ _ z0 h k hk=>by rw[hz]at h;cases h;exact hOf k (.inl hk)) (λ _ _ _=>rfl) (λ k hk=>⟨.inl (hOf k hk),(hm.zsep k ((hOf k hk).own hal)).2⟩) (by
      refine⟨inner,by rw[List.length_set];exact h2,λ k hk => .inl (h3 k hk),hnd.2,λ i m him => ?_,λ i=>if i=j then zn'.F else Fs i,λ i p hir hp => ?_,λ i k hir hk => ?_,λ a b k hab har hbr hk => ?_⟩
      ·
       obtain⟨v,⟨zm,g1,g2,g3⟩,g4⟩:=h4 i m (List.mem_cons_of_mem _ him)
       by_cases hmT:m=T
       ·
        subst hmT;rw[hz]at g1
        cases g1
        exact⟨v,⟨_,if_pos rfl,g2,g3⟩,g4⟩
       ·exact⟨v,⟨zm,(if_neg hmT).trans g1,g2,g3⟩,g4⟩
      ·
       by_cases hi:i=j
       ·
        subst hi;have hlt:=(List.getElem?_eq_some_iff.1 hp).1;rw[List.getElem?_set_self (by simpa using hlt)]at hp
        cases hp
        rw[h4j];simp only[if_pos];exact⟨zn'.hdr,rfl,hrow,λ h=>by rw[hnf]at h;cases h⟩
       ·rw[List.getElem?_set_ne (Ne.symm hi)]at hp;simp only[if_neg hi];exact h5 i p (hk2 i hir hi) hp
      ·
       by_cases hi:i=j
       ·simp only[if_pos hi]at hk;exact⟨.inr hk,λ e=>hsep k (h3 k e) hk⟩
       ·simp only[if_neg hi]at hk;exact⟨.inl (h6 i k (hk2 i hir hi) hk).1,(h6 i k (hk2 i hir hi) hk).2⟩
      ·
       by_cases ha:a=j
       ·
        have hb:b≠j:=λ e=>hab (ha.trans e.symm)
        simp only[if_pos ha]at hk;simp only[if_neg hb];exact λ h=>hsep k (h6 b k (hk2 b hbr hb) h).1 hk
       ·
        simp only[if_neg ha]at hk
        by_cases hb:b=j
        ·simp only[if_pos hb];exact hsep k (h6 a k (hk2 a har ha) hk).1
        ·simp only[if_neg hb];exact h7 a b k hab (hk2 a har ha) (hk2 b hbr hb) hk)
     obtain⟨ρ', g1,g2,g3⟩:=Zfi lv T e e2 t2 r _ _ _ Z (by rw[pts,pts,lk_pt,if_pos rfl]) m1;refine⟨ρ', g1,m2.trans g2,λ U hU=>g3 U ?_⟩;unfold upd;rw[if_neg λ e=>by rw[e,hz]at hU;cases hU];exact hU
   ·exact hno
  ·exact hno
theorem Zek (lv:List Nat):∀(l:List Nat) (ob:List (Nat×Ob)) (ρ : Rz) (Z:Nat->Prop),Mem P B ρ Z (look ob) w->∃ρ', Mem P B ρ' Z (look (Ze0 lv l ob)) w/\Trn ρ Z (look ob) w ρ' Z (look (Ze0 lv l ob)) w/\∀T,ρ T=none -> ρ' T=none
 | [],ob,ρ,Z,hm=>⟨ρ,hm,Trn.refl _ _ _ _,λ _ h=>h⟩
 | T :: r,ob,ρ,Z,hm=>by
  unfold Ze0
  split
  ·
   rename_i e e' t xs hl ho
   obtain⟨ρ1,g1,g2,g3⟩:=Zfi lv T e e' t hl xs ob ρ Z ho hm;obtain⟨ρ2,k1,k2,k3⟩:=Zek lv r _ ρ1 Z g1;exact⟨ρ2,k1,g2.trans k2,λ U hU=>k3 U (g3 U hU)⟩
  ·exact Zek lv r ob ρ Z hm
theorem Zom {σ : St} {T:Nat} {j:Int} {β : Type} {K:List (Nat×Ob)->List Nat->Option β} {r : β} {ρ : Rz} {Z:Nat->Prop} (hm:Mem P B ρ Z (look σ.ob) w) (hn:∀T,σ.nx<=T -> ρ T=none) (h:(ZlR σ.nx T j).run σ.ob K []=some r) :
  ∃add nd ρ' Z', K add nd=some r/\Mem P B ρ' Z' (look (pts add (rms [] σ.ob))) w/\Trn ρ Z (look σ.ob) w ρ' Z' (look (pts add (rms [] σ.ob))) w/\∀T,σ.nx+1<=T -> ρ' T=none:=by
 unfold ZlR at h;rw[Zbu]at h;obtain⟨o,ho,h⟩:=h;have main:∀{e e' : TypeId} {t:Ty} {xs:List (List t.den)} {hl:List (Nat×Nat)} {z:Rzv},ρ T=some z->ZiC w e 1 (Rep Z w true (.sl e' t)) z.hdr xs hl (λ n v=>∃zn,ρ n=some zn/\zn.hdr=v/\v.oneCell' = true) z.F->0<=j->j < (xs.length:Int)->j.toNat ∉ keys hl ->
   ∃ρ' Z', Mem P B ρ' Z' (look (pts [(σ.nx,Ob.row e' true t (Ty.rd (.sl e' t) xs j)),(T,.hole e (.sl e' t) xs ((j.toNat,σ.nx) :: hl))] (rms [] σ.ob))) w/\Trn ρ Z (look σ.ob) w ρ' Z' (look (pts [(σ.nx,Ob.row e' true t (Ty.rd (.sl e' t) xs j)),(T,.hole e (.sl e' t) xs ((j.toNat,σ.nx) :: hl))] (rms [] σ.ob))) w/\∀T,σ.nx+1<=T -> ρ' T=none:=λ {e e' t xs hl z} hz hO h0 h1 hj=>by
  obtain⟨g,cap,hv,_⟩:=ZbQ hO.choose_spec.1 (by omega) Nat.one_pos;have hTn:T < σ.nx:=by
   rcases Nat.lt_or_ge T σ.nx with h|h
   ·exact h
   ·rw[hn T h]at hz;cases hz
  obtain⟨u,g', _,_,ρ', Z', k1,k2,_,k4⟩:=Zj4 (B:=B) hm ho hz hO ⟨z,g,_,cap,hz,hv,h0,h1,rfl⟩ h0 h1 hj (hn σ.nx (Nat.le_refl _));refine⟨ρ', Z', k1,k2,λ U hU=>k4 U (hn U (by omega)) λ hk => ?_⟩;rcases List.mem_cons.1 hk with e|hk
  ·have e:U = σ.nx:=e;omega
  ·have e:U=T:=List.mem_singleton.1 hk;omega
 split at h
 ·
  rename_i e e' t xs
  rw[ZZ,ZZ]at h;obtain⟨h0,h1,h⟩:=h;obtain⟨z,hz,inner,hown,hb,Fs,hel,hsub,hd⟩:=hm.obj T _ ho;obtain⟨ρ', Z', k⟩:=main (hl:=[]) hz ⟨inner,hown,hb,List.nodup_nil,λ _ _ h=>(by cases h),Fs,λ i p _=>hel i p,λ i k _=>hsub i k,λ a b k h _ _=>hd a b k h⟩ h0 h1 (λ h=>by cases h);exact⟨_,_,ρ', Z', h,k⟩
 ·
  rename_i e e' t xs hl
  rw[ZZ,ZZ]at h;obtain⟨h0,h1,h⟩:=h;obtain⟨z,hz,hO⟩:=hm.obj T _ ho;rcases holeAt_run h0 h with ⟨n,_,h⟩|⟨hj,h⟩
  ·exact⟨[],_,ρ,Z,h,hm,Trn.refl _ _ _ _,λ U hU=>hn U (by omega)⟩
  ·obtain⟨ρ', Z', k⟩:=main hz hO h0 h1 hj;exact⟨_,_,ρ', Z', h,k⟩
 ·cases h
theorem ZlS {β : Type} {r : β} {k:St->Option β}:∀(l:List (Operand×Operand)) {σ : St},At P B n pin ρ0 Z0 ob0 w0 σ a w->openR l σ k=some r->∃σ', At P B n pin ρ0 Z0 ob0 w0 σ' a w/\k σ' = some r
 | [],σ,h,hk=>⟨σ,h,hk⟩
 | (x,i) :: l,σ,h,hk=>by
  unfold openR at hk
  split at hk
  ·
   rename_i T kd j _ _
   obtain⟨ρ,Z,L,h1,h2,h3,h4,h5,h6,h7⟩:=h;obtain⟨add,nd,ρ', Z', g0,g1,g2,g3⟩:=Zom h2 h7 hk;exact ZlS l (σ := { σ with ob:=pts add (rms [] σ.ob),nx := σ.nx+1 }) ⟨ρ', Z', _,rfl,g1,h3.trn g2,λ t av hav=>(h4 t av hav).fut (g2.fut h2),h5,h6,g3⟩ g0
  ·cases hk
theorem Zm5 {β : Type} {r : β} {k:St->Option β} {E:Env} {id:Nat} {σ : St} (h:At P B n pin ρ0 Z0 ob0 w0 σ a w) (hk:openH E id σ k=some r):∃σ', At P B n pin ρ0 Z0 ob0 w0 σ' a w/\k σ' = some r:=by
 unfold openH at hk
 split at hk
 ·exact ZlS _ h hk
 ·exact⟨σ,h,hk⟩
theorem Zg2 {σ : St} (h:At P B n pin ρ0 Z0 ob0 w0 σ a w) (live:List Nat):At P B n pin ρ0 Z0 ob0 w0 (σ.close live) a w:=by obtain⟨ρ,Z,L,h1,h2,h3,h4,h5,h6,h7⟩:=h;obtain⟨ρ', g1,g2,g3⟩:=Zek (Zkj (keep σ.fr live)) (keys σ.ob) σ.ob ρ Z h2;exact⟨ρ', Z,_,rfl,g1,h3.trn g2,λ t av hav=>(h4 t av hav).fut (g2.fut h2),h5,h6,λ T hT=>g3 T (h7 T hT)⟩
theorem ZhB:∀(l:List Nat) (ob:List (Nat×Ob)) (ρ : Rz) (Z:Nat->Prop),Mem P B ρ Z (look ob) w->∃ρ' Z', Mem P B ρ' Z' (look (shKs l ob)) w/\Trn ρ Z (look ob) w ρ' Z' (look (shKs l ob)) w/\∀T,ρ T=none -> ρ' T=none
 | [],ob,ρ,Z,hm=>⟨ρ,Z,hm,Trn.refl _ _ _ _,λ _ h=>h⟩
 | T :: r,ob,ρ,Z,hm=>by
  unfold shKs
  split
  ·
   rename_i et e' t xs ho
   obtain⟨ρ2,Z2,g1,g2,g3⟩:=ZnA (L' := pts [(T,.row et false (.sl e' t) xs)] ob) hm ho (λ U=>by
    rw[ZdS U _ _ (by simp[keys,nodup])]
    by_cases hU:U=T
    ·subst hU;simp[lk]
    ·simp[lk,ZbM hU,hU])
   obtain⟨ρ3,Z3,k1,k2,k3⟩:=ZhB r _ ρ2 Z2 g1;exact⟨ρ3,Z3,k1,g2.trans k2,λ U hU=>k3 U (g3 U hU)⟩
  ·exact ZhB r ob ρ Z hm
theorem sh_at {σ : St} (h:At P B n pin ρ0 Z0 ob0 w0 σ a w):At P B n pin ρ0 Z0 ob0 w0 σ.sh a w:=by obtain⟨ρ,Z,L,h1,h2,h3,h4,h5,h6,h7⟩:=h;obtain⟨ρ', Z', g1,g2,g3⟩:=ZhB (keys σ.ob) σ.ob ρ Z h2;exact⟨ρ', Z', _,rfl,g1,h3.trn g2,λ t av hav=>(h4 t av hav).fut (g2.fut h2),h5,h6,λ T hT=>g3 T (h7 T hT)⟩
theorem ZeA:∀(l:List Nat) (ob:List (Nat×Ob)) (ρ : Rz) (Z:Nat->Prop),Mem P B ρ Z (look ob) w->∃ρ' Z', Mem P B ρ' Z' (look (fzKs l ob)) w/\Trn ρ Z (look ob) w ρ' Z' (look (fzKs l ob)) w/\∀T,ρ T=none -> ρ' T=none
 | [],ob,ρ,Z,hm=>⟨ρ,Z,hm,Trn.refl _ _ _ _,λ _ h=>h⟩
 | U :: r,ob,ρ,Z,hm=>by
  unfold fzKs
  split
  ·
   rename_i e f ls ho
   split
   ·
    rename_i ls' Ts hf
    cases hc:(lfsOk ls' && !Ts.contains U)with
    | false=>exact ZeA r ob ρ Z hm
    | true =>
     rw[Bool.and_eq_true,Bool.not_eq_true']at hc;have hUT:U ∉ Ts:=λ h=>by
      have:=hc.2;rw[List.contains_iff_mem.2 h]at this
      cases this
     obtain⟨ρ2,Z2,g1,g2,g3⟩:=Zo7 (L' := pts [(U,.box e f ls')] (rms Ts ob)) hm ho hf hc.1 hUT (λ T=>by
      rw[ZdS T _ _ (by simp[keys,nodup]),Zca]
      by_cases hT:T=U
      ·subst hT;simp[lk]
      ·simp[lk,ZbM hT,hT])
     obtain⟨ρ3,Z3,k1,k2,k3⟩:=ZeA r _ ρ2 Z2 g1;exact⟨ρ3,Z3,k1,g2.trans k2,λ T hT=>k3 T (g3 T hT)⟩
   ·exact ZeA r ob ρ Z hm
  ·exact ZeA r ob ρ Z hm
theorem fz_at {σ : St} (h:At P B n pin ρ0 Z0 ob0 w0 σ a w):At P B n pin ρ0 Z0 ob0 w0 σ.fz a w:=by obtain⟨ρ,Z,L,h1,h2,h3,h4,h5,h6,h7⟩:=h;obtain⟨ρ', Z', g1,g2,g3⟩:=ZeA (keys σ.ob) σ.ob ρ Z h2;exact⟨ρ', Z', _,rfl,g1,h3.trn g2,λ t av hav=>(h4 t av hav).fut (g2.fut h2),h5,h6,λ T hT=>g3 T (h7 T hT)⟩
theorem ZlQ {E:Env} (hp:E.pin=pin) {σ : St} (h:At P B n pin ρ0 Z0 ob0 w0 σ a w) (id:Option Nat):At P B n pin ρ0 Z0 ob0 w0 (nrm E id σ) a w:=by
 unfold nrm
 split
 ·
  split
  ·
   rw[hp]
   cases E.rows.contains (2000000+_)with
   | true=>exact fz_at (Zi2 (Zg2 h _) _)
   | false =>
    cases E.rows.contains (1000000+_)with
    | false=>exact Zi2 (Zg2 h _) _
    | true=>exact sh_at (Zi2 (Zg2 h _) _)
  ·exact h
 ·exact h
end
def Ex.to:Ex->Exit
 | .normal => .normal
 | .exit id => .exit id
 | .ret => .ret
section
variable {P:Program} {B:Nat->Prop} {E:Env} {ρ0:Rz} {Z0:Nat->Prop} {ob0:Obs} {w0:World}
theorem Zll {σ : St} {a:Act} {w:World} {n pin:Nat} (h:At P B n pin ρ0 Z0 ob0 w0 σ a w) {c:Operand} {m:Bool} {p:Prop} {d:Decidable p} (hc:ev σ.fr c=some (.lf (.cnd m p d))):a.eval c = .bool (bval m p d):=by
 obtain⟨ρ,Z,L,h1,h2,h3,h4,h5,h6,h7⟩:=h;have:AR P B ρ Z w (.lf (.cnd m p d)) (a.eval c):=by
  cases c with
  | tmp t=>exact h4 t _ hc
  | const v=>exact Zgt hc
  | global g=>cases hc
  | func f=>cases hc
 exact this
theorem ZlL {c:Code} {Q:Exit->Act->World->Prop} {p:Ex×St} {f:St->Option (Ex×St)} {I:St->Act->World->Prop}
  (hbody:∀σ a w r,f σ = some r->I σ a w->c.wp P (λ e a' w' => match e with
   | .normal=>r.1 = .normal/\I r.2 a' w'
   | e=>r.1 ≠ .normal/\(∀(σ' : St),r=p->Q e a' w')) a w):∀(n:Nat) (σ : St) (a:Act) (w:World),iter f n σ = some p->I σ a w->(Code.loop c).wp P Q a w:=by
 intro n σ a w h hI;refine wp_loop_ghost (λ n a w=>∃σ,I σ a w/\iter f n σ = some p) n ⟨σ,hI,h⟩ λ n a w ⟨σ,hI,h⟩ => ?_
 cases n with
 | zero=>cases h
 | succ n =>
  unfold iter at h
  cases hf:f σ with
  | none=>rw[hf]at h;cases h
  | some r =>
   rw[hf]at h;refine wp_mono (hbody σ a w r hf hI) λ e a' w' hq => ?_
   obtain⟨x,s⟩:=r
   cases e with
   | normal =>
    obtain⟨h1,h2⟩:=hq;have h1:x = .normal:=h1;subst h1;exact⟨n,Nat.lt_succ_self n,s,h2,h⟩
   | _ =>
    obtain⟨h1,h2⟩:=hq;have h1:x ≠ .normal:=h1
    cases x with
    | normal=>exact absurd rfl h1
    | _=>exact h2 s (Option.some.inj h)
theorem Zkx (hE:EnvOk P E) (hm:P.follows .mixedOrders=true):∀(c:Code) {β : Type} (K:Ex->St->Option β) (r : β) (σ : St) (a:Act) (w:World) (Q:Exit->Act->World->Prop),denC E c σ K=some r->At P B E.n E.pin ρ0 Z0 ob0 w0 σ a w ->
  (∀ex σ' a' w', K ex σ' = some r->At P B E.n E.pin ρ0 Z0 ob0 w0 σ' a' w' -> Q ex.to a' w')->c.wp P Q a w:=by
 intro c
 induction c with
 | skip =>
  intro β K r σ a w Q h hat hQ;exact wp_skip (hQ .normal σ a w (by simpa only[denC] using h) hat)
 | region id ops draw =>
  intro β K r σ a w Q h hat hQ;simp only[denC]at h;obtain⟨σo,hn,h⟩:=Zm5 (ZlQ (E:=E) rfl hat (some id)) h;obtain⟨ss,σ', h1,h2⟩:=ZdP (B:=B) (n:=E.n) hE rfl (all:=ops) _ _ _ _ (λ g b hg=>by cases hg) h;have hJ:Stays (Bas E.pin ρ0 Z0 ob0 w0):=λ h t=>h.trn t
  cases draw with
  | false=>exact Zjj hJ h2 hn λ a' w' h' => hQ .normal σ' a' w' h1 h'
  | true =>
   simp only[cond_true,List.reverse_nil,List.nil_append]at h1
   cases hb:bern ops (ss.map λ s=>(s.need,s.tch))with
   | false=>rw[hb]at h1;cases h1
   | true =>
    rw[hb]at h1;exact ZkR hm hJ (λ {ρ Z ob w} h=>h.trn ⟨rfl,rfl,rfl,Nat.le_refl _,λ _ _ _=>rfl,λ _ h => .inl h,λ _ h => .inl h,λ _ h=>h,λ _ z h=>⟨z,h,rfl⟩⟩) h2 hb hn λ a' w' h' => hQ .normal σ' a' w' h1 h'
 | seq x y ihx ihy =>
  intro β K r σ a w Q h hat hQ;simp only[denC]at h;refine wp_seq (ihx _ r σ a w _ h hat λ ex σ' a' w' hk hat' => ?_)
  cases ex with
  | normal=>exact ihy K r σ' a' w' Q hk hat' hQ
  | exit i=>exact hQ (.exit i) σ' a' w' hk hat'
  | ret=>exact hQ .ret σ' a' w' hk hat'
 | cond c x y ihx ihy =>
  intro β K r σ a w Q h hat hQ;simp only[denC]at h
  split at h
  ·
   rename_i m p d hc
   have hev:=Zll hat hc;refine wp_cond hev ?_
   by_cases hp:p
   ·
    rw[if_pos hp]at h;have hv:bval m p d = !m:=by unfold bval;rw[decide_eq_true hp];cases m <;> rfl
    rw[hv]
    cases m with
    | true=>exact ihy K r σ a w Q h hat hQ
    | false=>exact ihx K r σ a w Q h hat hQ
   ·
    rw[if_neg hp]at h;have hv:bval m p d=m:=by unfold bval;rw[decide_eq_false hp];cases m <;> rfl
    rw[hv]
    cases m with
    | true=>exact ihx K r σ a w Q h hat hQ
    | false=>exact ihy K r σ a w Q h hat hQ
  ·cases h
 | block id c ih =>
  intro β K r σ a w Q h hat hQ;simp only[denC]at h;refine wp_block (ih _ r σ a w _ h hat λ ex σ' a' w' hk hat' => ?_)
  cases ex with
  | normal=>exact hQ .normal σ' a' w' hk hat'
  | exit i =>
   show if i=id then Q .normal a' w' else Q (.exit i) a' w'
   unfold blkK at hk
   by_cases hi:i=id
   ·subst hi;rw[if_pos rfl];simp at hk;exact hQ .normal σ' a' w' hk hat'
   ·rw[if_neg hi];simp only[ZbM hi,cond_false]at hk;exact hQ (.exit i) σ' a' w' hk hat'
  | ret=>exact hQ .ret σ' a' w' hk hat'
 | loop c ih =>
  intro β K r σ a w Q h hat hQ;simp only[denC]at h
  cases hl:loopR (λ s=>denC E c s (backK E (rid c))) (nrm E (rid c) σ)with
  | none=>rw[hl]at h;cases h
  | some p =>
   rw[hl]at h;have h:K p.1 p.2=some r:=h;unfold loopR at hl
   split at hl
   ·
    refine ZlL (p:=p) (I:=λ σ a w=>At P B E.n E.pin ρ0 Z0 ob0 w0 σ a w) (λ σ a w r' hf hI => ?_) _ _ a w hl (ZlQ rfl hat _);refine ih _ r' σ a w _ hf hI λ ex σ' a' w' hk hat' => ?_
    cases ex with
    | normal =>
     have hk:some (Ex.normal,nrm E (rid c) σ')=some r' := hk
     cases hk
     exact⟨rfl,ZlQ rfl hat' _⟩
    | exit i =>
     have hk:some (Ex.exit i,σ')=some r' := hk
     cases hk
     exact⟨λ h=>(by cases h),λ _ hp=>by subst hp;exact hQ (.exit i) σ' a' w' h hat'⟩
    | ret =>
     have hk:some (Ex.ret,σ')=some r' := hk
     cases hk
     exact⟨λ h=>(by cases h),λ _ hp=>by subst hp;exact hQ .ret σ' a' w' h hat'⟩
   ·cases hl
 | exit id =>
  intro β K r σ a w Q h hat hQ;exact wp_exit (hQ (.exit id) σ a w (by simpa only[denC] using h) hat)
 | ret =>
  intro β K r σ a w Q h hat hQ;exact wp_ret (hQ .ret σ a w (by simpa only[denC] using h) hat)
 | _=>intro β K r σ a w Q h hat hQ;simp[denC]at h
end
section
variable {P:Program} {B Z:Nat->Prop} {w:World}
theorem Zdl {ρ : Rz}:∀(ss:List LS) (x:lsd ss) (nx:Nat) (vs:List Value),LRs P B ρ Z w (mkLfs ss x nx).1 vs->ZcP ρ ss vs (Zcx ss nx).1/\(Zcx ss nx).2=(mkLfs ss x nx).2.2
 | [],x,nx,vs,h=>⟨rfl,rfl⟩
 | .v t :: ss,x,nx,_,⟨v,vs', e,h1,h2⟩=>by obtain⟨k1,k2⟩:=Zdl ss x.2 nx vs' h2;exact⟨⟨v,vs', [],_,e,rfl,rfl,k1⟩,k2⟩
 | .fn asx r :: ss,x,nx,_,⟨v,vs', e,h1,h2⟩=>by obtain⟨k1,k2⟩:=Zdl ss x.2 nx vs' h2;exact⟨⟨v,vs', [],_,e,rfl,rfl,k1⟩,k2⟩
 | .own e m t :: ss,x,nx,_,⟨v,vs', e1,⟨z,h3,h4,_⟩,h2⟩=>by obtain⟨k1,k2⟩:=Zdl ss x.2 (nx+1) vs' h2;exact⟨⟨v,vs', [nx],_,e1,rfl,⟨nx,z,rfl,h3,h4.symm⟩,k1⟩,k2⟩
theorem Puts.ro {T:Nat} {t:TypeId} {os:List (Nat×Ob)} {zl:List (Nat×Rzv)} {ls:List Lf} {us:List Value} {g:Nat} {F F0:Nat->Prop} (h:Puts P B Z w os zl F) (hok:lfsOk ls=true) (hl:∀ρ' : Rz,(∀T z,lk T zl=some z -> ρ' T=some z)->LRs P B ρ' Z w ls us) (hg:w.heap[g]? = some (.cells us.toArray t (0,0))) (hgB:B g) (hs:∀k,F k->F0 k) (hT:T ∉ keys zl) :
  Puts P B Z w ((T,.box t true ls) :: os) ((T,⟨.pointer (some ⟨g,0,none⟩),λ _=>False⟩) :: zl) F0:=by
 have cut:∀{U:Nat} {z:Rzv},lk U ((T,(⟨.pointer (some ⟨g,0,none⟩),λ _=>False⟩:Rzv)) :: zl)=some z->(U=T/\z=⟨.pointer (some ⟨g,0,none⟩),λ _=>False⟩)\/(U≠T/\lk U zl=some z):=by
  intro U z h
  by_cases hU:U=T
  ·subst hU;simp[lk]at h;exact .inl ⟨rfl,h.symm⟩
  ·simp[lk,ZbM hU]at h;exact .inr ⟨hU,h⟩
 refine⟨by simp[keys,h.key],λ U z hz k hk => ?_,λ U U' z z' k hne hz hz' hk hk' => ?_,λ ρ' hρ U o z ho hz => ?_⟩
 ·
  rcases cut hz with ⟨_,rfl⟩|⟨_,hz⟩
  ·exact hk.elim
  ·exact hs k (h.sub U z hz k hk)
 ·
  rcases cut hz with ⟨e,rfl⟩|⟨e,hy⟩ <;> rcases cut hz' with ⟨e', rfl⟩|⟨e', hy'⟩
  ·exact hk
  ·exact hk
  ·exact hk'
  ·exact h.dis U U' z z' k hne hy hy' hk hk'
 ·
  have hp:∀U z,lk U zl=some z -> ρ' U=some z:=λ U z hz=>hρ U z (by
   have hU:U≠T:=λ e=>hT (e ▸ ZbZ hz)
   simp only[lk,ZbM hU,cond_false];exact hz)
  rcases cut hz with ⟨rfl,rfl⟩|⟨e,hz⟩
  ·simp[lk]at ho;subst ho;exact⟨g,us,rfl,hg,hl ρ' hp,hok,(λ h=>by cases h),λ _=>hgB⟩
  ·simp only[lk,ZbM e,cond_false]at ho;exact h.ors ρ' hp U o z ho hz
def noOwn:List LS->Bool
 | []=>true
 | .own _ _ _ :: _=>false
 | .v _ :: r=>noOwn r
 | .fn _ _ :: r=>noOwn r
def roOk:List ASh->Bool
 | []=>true
 | .ptr true _ ss :: r=>noOwn ss && roOk r
 | .one _ :: r=>roOk r
 | .agg _ :: r=>roOk r
 | .eat _ _ _ :: r=>roOk r
 | .non :: r=>roOk r
 | .ptr false _ _ :: r=>roOk r
theorem Ze7:∀(ss:List LS) (x:lsd ss) (nx:Nat),noOwn ss=true->(mkLfs ss x nx).2=([],nx)/\(Zcx ss nx).2=nx
 | [],_,_,_=>⟨rfl,rfl⟩
 | .v t :: ss,x,nx,h=>Ze7 ss x.2 nx h
 | .fn asx r :: ss,x,nx,h=>Ze7 ss x.2 nx h
 | .own _ _ _ :: _,_,_,h=>by cases h
def Pars (P:Program) (B:Nat->Prop) (ρ : Rz) (Z:Nat->Prop) (w:World) (fr:List (Nat×AV)) (t:Nat) (vs:List Value):Prop:=∀u av,lk u fr=some av->∃i v,u=t+i/\vs[i]? = some v/\AR P B ρ Z w av v
theorem Pars.cons {ρ : Rz} {fr:List (Nat×AV)} {t:Nat} {v:Value} {vs:List Value} {av:AV} (h:AR P B ρ Z w av v) (h' : Pars P B ρ Z w fr (t+1) vs):Pars P B ρ Z w ((t,av) :: fr) t (v :: vs):=by
 intro u av' hu
 by_cases e:u=t
 ·subst e;simp[lk]at hu;subst hu;exact⟨0,v,rfl,rfl,h⟩
 ·simp[lk,ZbM e]at hu;obtain⟨i,v', h1,h2,h3⟩:=h' u av' hu;exact⟨i+1,v', by omega,by simpa using h2,h3⟩
theorem Zcm:∀(ins:List ASh) (x:lsd (flats ins)) (vs:List Value) (F:Nat->Prop) (t nx:Nat),roOk ins=true->ASRs P B Z w ins x vs F ->
  ∃zl,Puts P B Z w (mkIns ins x t nx).2.1 zl F/\Range zl nx (mkIns ins x t nx).2.2 (mkIns ins x t nx).2.1/\vs.length=ins.length/\∀ρ' : Rz,(∀T z,lk T zl=some z -> ρ' T=some z)->Pars P B ρ' Z w (mkIns ins x t nx).1 t vs/\ZdA ρ' ins vs (ZbY ins nx)
 | [],x,vs,F,t,nx,_,h=>by
  cases h
  exact⟨[],Puts.nil,Range.nil nx,rfl,λ ρ' _=>⟨(λ u av h=>by cases h),rfl⟩⟩
 | .one s :: r,x,_,F,t,nx,hro,⟨v,vs', F0,F1,e,h2,h3,h4,h5,h6⟩=>by
  subst e;obtain⟨zl,k1,k2,k3,k4,k5⟩:=ZbG [s] (x.1,()) [v] F0 nx ⟨v,[],F0,λ _=>False,rfl,h2,rfl,λ _ h=>h,λ _ h=>h.elim,λ _ _ h=>h⟩;obtain⟨zl', m1,m2,m3,m4⟩:=Zcm r x.2 vs' F1 (t+1) (mkLfs [s] (x.1,()) nx).2.2 hro h3;refine⟨zl++zl', Puts.append k1 m1 (k2.dis m2) h4 h5 h6,k2.append m2,by simp[m3],λ ρ' hρ => ?_⟩;have hl:=k5 ρ' λ T z h=>hρ T z (Zf2 h)
  obtain⟨b1,b2⟩:=Zdl [s] (x.1,()) nx [v] hl;obtain⟨c1,c2⟩:=m4 ρ' λ T z h=>hρ T z (Zdr (λ hT=>k2.dis m2 T hT (ZbZ h)) h)
  constructor
  ·
   refine Pars.cons ?_ c1;have hlen:(mkLfs [s] (x.1,()) nx).1.length=1:=k4
   generalize (mkLfs [s] (x.1,()) nx).1=ls at hl hlen
   rcases ls with _|⟨l,_|⟨l', ls⟩⟩
   ·cases hlen
   ·
    obtain⟨v', e,hv⟩:=hl.one_inv
    cases e
    exact hv
   ·simp at hlen
  ·
   obtain⟨v0,vs0,t1,t2,e1,e2,e3,e4⟩:=b1
   cases e1
   cases e4
   refine⟨v,vs', (Zcx [s] nx).1,ZbY r (mkLfs [s] (x.1,()) nx).2.2,rfl,?_,?_,c2⟩
   ·show(Zcx [s] nx).1++ZbY r (Zcx [s] nx).2=_;rw[b2]
   ·rw[e2,List.append_nil];exact e3
 | .non :: r,x,_,F,t,nx,hro,⟨v,vs', F0,F1,e,h2,h3,h4,h5,h6⟩=>by subst e;obtain⟨zl', m1,m2,m3,m4⟩:=Zcm r x vs' F1 (t+1) nx hro h3;refine⟨zl', ⟨m1.key,λ T z h k hk=>h5 k (m1.sub T z h k hk),m1.dis,m1.ors⟩,m2,by simp[m3],λ ρ' hρ => ?_⟩;obtain⟨c1,c2⟩:=m4 ρ' hρ;exact⟨Pars.cons (show AR P B ρ' Z w (.lf .nil) v from h2) c1,v,vs', [],ZbY r nx,rfl,rfl,rfl,c2⟩
 | .eat e' m' t' :: r,x,_,F,t,nx,hro,⟨v,vs', F0,F1,e,h2,h3,h4,h5,h6⟩=>by
  subst e;obtain⟨zl,k1,k2,k3,k4,k5⟩:=ZbG [.own e' m' t'] (x.1,()) [v] F0 nx ⟨v,[],F0,λ _=>False,rfl,h2,rfl,λ _ h=>h,λ _ h=>h.elim,λ _ _ h=>h⟩;obtain⟨zl', m1,m2,m3,m4⟩:=Zcm r x.2 vs' F1 (t+1) (mkLfs [.own e' m' t'] (x.1,()) nx).2.2 hro h3;refine⟨zl++zl', Puts.append k1 m1 (k2.dis m2) h4 h5 h6,k2.append m2,by simp[m3],λ ρ' hρ => ?_⟩;have hl:=k5 ρ' λ T z h=>hρ T z (Zf2 h)
  obtain⟨b1,b2⟩:=Zdl [.own e' m' t'] (x.1,()) nx [v] hl;obtain⟨c1,c2⟩:=m4 ρ' λ T z h=>hρ T z (Zdr (λ hT=>k2.dis m2 T hT (ZbZ h)) h)
  constructor
  ·
   refine Pars.cons ?_ c1;obtain⟨v', vs0,e,hv,_⟩:=hl
   cases e
   exact(show AR P B ρ' Z w (.lf (.own nx)) v from hv)
  ·
   refine⟨v,vs', [],ZbY r (mkLfs [.own e' m' t'] (x.1,()) nx).2.2,rfl,?_,rfl,c2⟩;show ZbY r (nx+1)=_
   rfl
 | .agg ss :: r,x,_,F,t,nx,hro,⟨v,vs', F0,F1,e,⟨us,e2,h2⟩,h3,h4,h5,h6⟩=>by
  subst e;obtain⟨zl,k1,k2,k3,k4,k5⟩:=ZbG ss (Zaf ss (flats r) x).1 us F0 nx h2;obtain⟨zl', m1,m2,m3,m4⟩:=Zcm r (Zaf ss (flats r) x).2 vs' F1 (t+1) (mkLfs ss (Zaf ss (flats r) x).1 nx).2.2 hro h3;refine⟨zl++zl', Puts.append k1 m1 (k2.dis m2) h4 h5 h6,k2.append m2,by simp[m3],λ ρ' hρ => ?_⟩;have hl:=k5 ρ' λ T z h=>hρ T z (Zf2 h)
  obtain⟨b1,b2⟩:=Zdl ss _ nx us hl;obtain⟨c1,c2⟩:=m4 ρ' λ T z h=>hρ T z (Zdr (λ hT=>k2.dis m2 T hT (ZbZ h)) h)
  exact⟨Pars.cons (av := .agg _) ⟨us,e2,hl⟩ c1,v,vs', (Zcx ss nx).1,ZbY r (mkLfs ss (Zaf ss (flats r) x).1 nx).2.2,rfl,by show(Zcx ss nx).1++ZbY r (Zcx ss nx).2=_;rw[b2],⟨us,e2,b1⟩,c2⟩
 | .ptr true ty ss :: r,x,_,F,t,nx,hro,⟨v,vs', F0,F1,e,⟨g,us,F', e2,e3,h2,gB⟩,h3,h4,h5,h6⟩=>by
  subst e;subst e2;rw[roOk,Bool.and_eq_true]at hro;obtain⟨n1,n2⟩:=Ze7 ss (Zaf ss (flats r) x).1 (nx+1) hro.1;obtain⟨zl,k1,k2,k3,k4,k5⟩:=ZbG ss (Zaf ss (flats r) x).1 us F' (nx+1) h2;obtain⟨zl', m1,m2,m3,m4⟩:=Zcm r (Zaf ss (flats r) x).2 vs' F1 (t+1) (mkLfs ss (Zaf ss (flats r) x).1 (nx+1)).2.2 hro.2 h3;have hz:zl=[]:=by
   have:=k1.key;rw[n1]at this
   cases zl with
   | nil=>rfl
   | cons a l=>cases this
  subst hz;have hR:=Range.one nx ⟨.pointer (some ⟨g,0,none⟩),λ _=>False⟩ (.box ty true (mkLfs ss (Zaf ss (flats r) x).1 (nx+1)).1);have hB:=Puts.ro (T:=nx) (t:=ty) (F0:=F0) (os:=(mkLfs ss (Zaf ss (flats r) x).1 (nx+1)).2.1) (F:=λ _=>False) (by rw[n1];exact Puts.nil) k3 k5 e3 gB (λ k hk=>hk.elim) (λ hT=>by cases hT);have hR2:=hR.append k2;refine⟨((nx,(⟨.pointer (some ⟨g,0,none⟩),λ _=>False⟩:Rzv)) :: [])++zl', Puts.append hB m1 (hR2.dis m2) h4 h5 h6,hR2.append m2,by simp[m3],λ ρ' hρ => ?_⟩;have hnx:=hρ nx _ (Zf1 _ _ _);obtain⟨c1,c2⟩:=m4 ρ' λ T z h=>hρ T z (Zdr (λ hT=>hR2.dis m2 T hT (ZbZ h)) h)
  refine⟨Pars.cons (av := .lf (.box nx 0)) ⟨_,g,hnx,rfl,rfl⟩ c1,_,vs', [],ZbY r (mkLfs ss (Zaf ss (flats r) x).1 (nx+1)).2.2,rfl,?_,rfl,c2⟩;show(bif true then ZbY r (Zcx ss (nx+1)).2 else nx :: ZbY r (Zcx ss (nx+1)).2)=_;rw[n2,n1];rfl
 | .ptr false ty ss :: r,x,_,F,t,nx,hro,⟨v,vs', F0,F1,e,⟨g,us,F', e2,e3,h2,g1,g2,g3⟩,h3,h4,h5,h6⟩=>by
  subst e;subst e2;obtain⟨zl,k1,k2,k3,k4,k5⟩:=ZbG ss (Zaf ss (flats r) x).1 us F' (nx+1) h2;obtain⟨zl', m1,m2,m3,m4⟩:=Zcm r (Zaf ss (flats r) x).2 vs' F1 (t+1) (mkLfs ss (Zaf ss (flats r) x).1 (nx+1)).2.2 hro h3;have hR:=Range.one nx ⟨.pointer (some ⟨g,0,none⟩),λ k=>k=g⟩ (.box ty false (mkLfs ss (Zaf ss (flats r) x).1 (nx+1)).1);have hB:=Puts.box (T:=nx) (t:=ty) k1 k3 k5 e3 g2 (F0:=F0) (λ k hk=>by cases hk;exact g1) g3 (λ hT=>hR.dis k2 nx (List.mem_singleton.2 rfl) hT);have hR2:=hR.append k2;refine⟨((nx,⟨.pointer (some ⟨g,0,none⟩),λ k=>k=g⟩) :: zl)++zl', Puts.append hB m1 (hR2.dis m2) h4 h5 h6,hR2.append m2,by simp[m3],λ ρ' hρ => ?_⟩;have hnx:=hρ nx _ (Zf1 _ _ _);have hzl:∀T z,lk T zl=some z -> ρ' T=some z:=λ T z h=>hρ T z (Zf2 (by have:=(k2.lo T (ZbZ h)).1;simp only[lk,ZbM (show T≠nx by omega),cond_false];exact h))
  have hl:=k5 ρ' hzl;obtain⟨b1,b2⟩:=Zdl ss _ (nx+1) us hl;obtain⟨c1,c2⟩:=m4 ρ' λ T z h=>hρ T z (Zdr (λ hT=>hR2.dis m2 T hT (ZbZ h)) h)
  refine⟨Pars.cons (av := .lf (.box nx 0)) ⟨_,g,hnx,rfl,rfl⟩ c1,_,vs', [nx],ZbY r (mkLfs ss (Zaf ss (flats r) x).1 (nx+1)).2.2,rfl,?_,⟨nx,_,rfl,hnx,rfl⟩,c2⟩;show(bif false then ZbY r (Zcx ss (nx+1)).2 else nx :: ZbY r (Zcx ss (nx+1)).2)=_;rw[b2];rfl
end
section
variable {P:Program} {B Z:Nat->Prop} {ρ : Rz} {ob:List (Nat×Ob)} {w:World} {β γ : Type} {KK : γ -> List Nat->Option β} {r : β}
theorem ZfL {T:Nat} {o:Ob} (h:lk T ob=some o):Alive ob [T]:=λ U hU=>by rw[List.mem_singleton.1 hU,h];rfl
theorem Zf0 (hm:Mem P B ρ Z (look ob) w):∀(s:LS) (l:Lf) (v:Value) (nd:List Nat) (K:s.den->List Nat->Pg γ),(lfDen s l K).run ob KK nd=some r->LR P B ρ Z w l v ->
  ∃x c nd', (K x c).run ob KK nd' = some r/\LSR P B Z w s x v (Of ρ c)/\Alive ob c
 | .v t,l,v,nd,K,h,hl=>by obtain⟨x,c,nd1,h,htell,hal⟩:=Zd1 hm h hl;exact⟨x,c,nd1,h,htell,hal⟩
 | .fn asx rt,l,v,nd,K,h,hl=>by cases l <;> cases h
 | .own e m t,l,v,nd,K,h,hl=>by
  cases l <;> first|(cases h;done)|skip
  case nil =>
   have hl:v = .slice none 0 0:=hl;subst hl;exact⟨_,[],nd,h,⟨[],World.ownsRow_nil w 0 e t.size,(λ k hk=>by cases hk),λ _ _=>False,(λ j p hp=>by simp at hp),(λ _ _ h=>h.elim),λ _ _ _ _ h=>h.elim⟩,Alive.nil⟩
  case own T =>
   simp only[lfDen,Zbu]at h;obtain⟨o,ho,h⟩:=h
   cases o with
   | box _ _ _=>cases h
   | hole _ _ _ _=>cases h
   | row e' m' t' xs =>
    simp only[ZaO]at h;obtain⟨hc,h⟩:=h;rw[Bool.and_eq_true]at hc;obtain⟨he,hc⟩:=hc;obtain rfl:=Nat.eq_of_beq_eq_true he
    cases hq:Ty.eq? t' t with
    | none=>rw[hq]at h;cases h
    | some hh =>
     rw[hq]at h;obtain⟨hh⟩:=hh;subst hh;obtain⟨z,hz,rfl,hone⟩:=hl;obtain⟨z', hz', hr⟩:=hm.obj T _ ho;obtain rfl:z' = z:=Option.some.inj (hz'.symm.trans hz);exact⟨xs,[T],_,h,Zj8 hr hz hc,ZfL ho⟩
theorem Zee (hm:Mem P B ρ Z (look ob) w) {a b:List Nat} (ha:Alive ob a) (hb:Alive ob b) (hn:nodup (a++b)=true):∀k,Of ρ a k->¬ Of ρ b k:=λ k hk=>Of.sep hm ha hb (nodup_append hn).2.2 hk
theorem Zc4 (hm:Mem P B ρ Z (look ob) w):∀(ss:List LS) (ls:List Lf) (vs:List Value) (nd:List Nat) (K:lsd ss->List Nat->Pg γ),(Zh8 ss ls K).run ob KK nd=some r->LRs P B ρ Z w ls vs ->
  ∃x c nd', (K x c).run ob KK nd' = some r/\(nodup c=true->LSRs P B Z w ss x vs (Of ρ c))/\Alive ob c
 | [],[],vs,nd,K,h,hl=>⟨(),[],nd,h,λ _=>hl,Alive.nil⟩
 | [],_ :: _,vs,nd,K,h,hl=>by cases h
 | s :: ss,[],vs,nd,K,h,hl=>by cases h
 | s :: ss,l :: ls,vs,nd,K,h,⟨v,vs', e,h1,h2⟩=>by subst e;obtain⟨x,c,nd1,h,k1,k2⟩:=Zf0 hm s l v nd _ h h1;obtain⟨y,c', nd2,h,k3,k4⟩:=Zc4 hm ss ls vs' nd1 _ h h2;exact⟨(x,y),c++c', nd2,h,λ hn=>⟨v,vs', _,_,rfl,k1,k3 (nodup_append hn).2.1,λ k hk=>hk.left,λ k hk=>hk.right,Zee hm k2 k4 hn⟩,k2.append k4⟩
theorem Zlb (hm:Mem P B ρ Z (look ob) w) {T:Nat} {bt:TypeId} {cells:List Lf} (ho:lk T ob=some (.box bt false cells)) {v:Value} {z0:Rzv} (hz0 : ρ T=some z0) (hv:z0.hdr=v):∃g vs,v = .pointer (some ⟨g,0,none⟩)/\w.heap[g]? = some (.cells vs.toArray bt (0,0))/\LRs P B ρ Z w cells vs/\∀c,Alive ob c->nodup (T :: c)=true->Of ρ (T :: c) g/\¬ Of ρ c g/\∀k,Of ρ c k->Of ρ (T :: c) k:=by obtain⟨z,hz,g,vs,h1,h2,h3,h4,h5,h6⟩:=hm.obj T _ ho;obtain rfl:z=z0:=Option.some.inj (hz.symm.trans hz0);refine⟨g,vs,hv ▸ h1,h2,h3,λ c hc hn=>⟨⟨T,z,List.mem_cons_self,hz,h5 rfl⟩,λ hk => ?_,λ k ⟨U,zu,k1,k2⟩=>⟨U,zu,List.mem_cons_of_mem _ k1,k2⟩⟩⟩;exact Zee hm (ZfL ho) hc hn g ⟨T,z,List.mem_singleton.2 rfl,hz,h5 rfl⟩ hk
theorem Zc8 (hm:Mem P B ρ Z (look ob) w):∀(outs:List ASh) (avs:List AV) (us:List Value) (nd:List Nat) (K:lsd (flats outs)->List Nat->Pg γ),(ZgN outs avs K).run ob KK nd=some r->AVs P B ρ Z w avs us ->
  ∃y c nd', (K y c).run ob KK nd' = some r/\(nodup c=true->ASRs P B Z w outs y us (Of ρ c))/\Alive ob c
 | [],[],us,nd,K,h,hl=>⟨(),[],nd,h,λ _=>hl,Alive.nil⟩
 | [],_ :: _,us,nd,K,h,hl=>by cases h
 | .one s :: outs,avs,us,nd,K,h,hl=>by
  rcases avs with _|⟨av,avs⟩
  ·cases h
  ·
   cases av <;> first|(cases h;done)|skip
   rename_i l
   obtain⟨v,vs', rfl,h1,h2⟩:=hl;obtain⟨x,c,nd1,h,k1,k2⟩:=Zf0 hm s l v nd _ h h1;obtain⟨y,c', nd2,h,k3,k4⟩:=Zc8 hm outs avs vs' nd1 _ h h2;exact⟨_,c++c', nd2,h,λ hn=>⟨v,vs', _,_,rfl,k1,k3 (nodup_append hn).2.1,λ k hk=>hk.left,λ k hk=>hk.right,Zee hm k2 k4 hn⟩,k2.append k4⟩
 | .eat _ _ _ :: outs,avs,us,nd,K,h,hl=>by
  rcases avs with _|⟨av,avs⟩
  ·cases h
  ·cases av <;> cases h
 | .non :: outs,avs,us,nd,K,h,hl=>by
  rcases avs with _|⟨av,avs⟩
  ·cases h
  ·cases av <;> cases h
 | .agg ss :: outs,avs,us,nd,K,h,hl=>by
  rcases avs with _|⟨av,avs⟩
  ·cases h
  ·
   cases av <;> first|(cases h;done)|skip
   rename_i ls
   obtain⟨v,vs', rfl,⟨us', e,h1⟩,h2⟩:=hl;obtain⟨x,c,nd1,h,k1,k2⟩:=Zc4 hm ss ls us' nd _ h h1;obtain⟨y,c', nd2,h,k3,k4⟩:=Zc8 hm outs avs vs' nd1 _ h h2;refine⟨_,c++c', nd2,h,λ hn=>⟨v,vs', Of ρ c,Of ρ c', rfl,?_,?_,λ k hk=>hk.left,λ k hk=>hk.right,Zee hm k2 k4 hn⟩,k2.append k4⟩
   ·show ASR P B Z w (.agg ss) (Zaf ss (flats outs) _).1 v _;rw[Zbv];exact⟨us', e,k1 (nodup_append hn).1⟩
   ·show ASRs P B Z w outs (Zaf ss (flats outs) _).2 vs' _;rw[Zbv];exact k3 (nodup_append hn).2.1
 | .ptr ro t ss :: outs,avs,us,nd,K,h,hl=>by
  rcases avs with _|⟨av,avs⟩
  ·cases ro <;> cases h
  ·
   cases ro with
   | true=>cases av <;> cases h
   | false =>
    cases av <;> first|(cases h;done)|skip
    rename_i l
    cases l <;> first|(cases h;done)|skip
    rename_i T off
    cases off with
    | succ _=>cases h
    | zero =>
     obtain⟨v,vs', rfl,⟨z0,g0,hz0,hg0,hv⟩,h2⟩:=hl;simp only[ZgN,Zbu]at h;obtain⟨o,ho,h⟩:=h
     cases o with
     | row _ _ _ _=>cases h
     | hole _ _ _ _=>cases h
     | box bt ro cells =>
      cases ro with
      | true=>cases h
      | false =>
       simp only[ZaO]at h;obtain⟨hb,h⟩:=h;obtain rfl:=Nat.eq_of_beq_eq_true hb;obtain⟨g,cs,e1,e2,e3,e4⟩:=Zlb hm ho hz0 (v:=v) (hg0.trans hv.symm);obtain⟨x,c,nd1,h,k1,k2⟩:=Zc4 hm ss cells cs _ _ h e3;obtain⟨y,c', nd2,h,k3,k4⟩:=Zc8 hm outs avs vs' nd1 _ h h2;have hal:Alive ob (T :: c):=λ U hU=>(List.mem_cons.1 hU).elim (λ e=>by rw[e,ho];rfl) (k2 U)
       refine⟨_,T :: c++c', nd2,h,λ hn=>⟨v,vs', Of ρ (T :: c),Of ρ c', rfl,?_,?_,λ k hk=>hk.left,λ k hk=>hk.right,Zee hm hal k4 hn⟩,hal.append k4⟩
       ·show ASR P B Z w (.ptr false _ ss) (Zaf ss (flats outs) _).1 v _;rw[Zbv];have hn1:=(nodup_append hn).1;exact⟨g,cs,Of ρ c,e1,e2,k1 (by simp only[nodup,Bool.and_eq_true]at hn1;exact hn1.2),e4 c k2 hn1⟩
       ·show ASRs P B Z w outs (Zaf ss (flats outs) _).2 vs' _;rw[Zbv];exact k3 (nodup_append hn).2.1
theorem Zeu (hm:Mem P B ρ Z (look ob) w):∀(s:LS) (v:Value) (ts Ts:List Nat) (nd:List Nat) (K:lsd s.back->List Nat->List Nat->Pg γ),(Zg0 s (ts++Ts) K).run ob KK nd=some r->ZfH ρ s v ts ->
  ∃x c nd', (K x Ts c).run ob KK nd' = some r/\IoLS Z w s v x (Of ρ c)/\Alive ob c
 | .v t,v,ts,Ts,nd,K,h,hb=>by
  cases hb
  exact⟨(),[],nd,h,trivial,Alive.nil⟩
 | .fn asx rt,v,ts,Ts,nd,K,h,hb=>by
  cases hb
  exact⟨(),[],nd,h,trivial,Alive.nil⟩
 | .own e m t,v,ts,Ts,nd,K,h,hb=>by
  obtain⟨T,z,rfl,hz,hv⟩:=hb;simp only[List.singleton_append,Zg0,Zbu]at h;obtain⟨o,ho,h⟩:=h
  cases o with
  | box _ _ _=>cases h
  | hole _ _ _ _=>cases h
  | row e' m' t' xs =>
   simp only[ZaO]at h;obtain⟨hc,h⟩:=h;rw[Bool.and_eq_true]at hc;obtain⟨he,hc⟩:=hc;obtain rfl:=Nat.eq_of_beq_eq_true he
   cases hq:Ty.eq? t' t with
   | none=>rw[hq]at h;cases h
   | some hh =>
    rw[hq]at h;obtain⟨hh⟩:=hh;subst hh;obtain⟨z', hz', hr⟩:=hm.obj T _ ho;obtain rfl:z' = z:=Option.some.inj (hz'.symm.trans hz);subst hv;exact⟨(xs,()),[T],_,h,Zj8 hr hz hc,ZfL ho⟩
theorem Zea (hm:Mem P B ρ Z (look ob) w):∀(ss:List LS) (vs:List Value) (ts Ts:List Nat) (nd:List Nat) (K:lsd (backs ss)->List Nat->List Nat->Pg γ),(Zg1 ss (ts++Ts) K).run ob KK nd=some r->ZcP ρ ss vs ts ->
  ∃x c nd', (K x Ts c).run ob KK nd' = some r/\(nodup c=true->IoLSs Z w ss vs x (Of ρ c))/\Alive ob c
 | [],vs,ts,Ts,nd,K,h,hb=>by
  cases hb
  exact⟨(),[],nd,h,λ _=>trivial,Alive.nil⟩
 | s :: ss,vs,ts,Ts,nd,K,h,⟨v,vs', t1,t2,e1,e2,b1,b2⟩=>by
  subst e1;subst e2;rw[List.append_assoc]at h;obtain⟨x,c,nd1,h,k1,k2⟩:=Zeu hm s v t1 (t2++Ts) nd _ h b1;obtain⟨y,c', nd2,h,k3,k4⟩:=Zea hm ss vs' t2 Ts nd1 _ h b2;refine⟨_,c++c', nd2,h,λ hn=>⟨v,vs', Of ρ c,Of ρ c', rfl,?_,?_,λ k hk=>hk.left,λ k hk=>hk.right,Zee hm k2 k4 hn⟩,k2.append k4⟩
  ·rw[Zbv];exact k1
  ·rw[Zbv];exact k3 (nodup_append hn).2.1
theorem Zck (hm:Mem P B ρ Z (look ob) w):∀(ins:List ASh) (vs:List Value) (Ts:List Nat) (nd:List Nat) (K:lsd (ios ins)->List Nat->Pg γ),(ioDen ins Ts K).run ob KK nd=some r->ZdA ρ ins vs Ts ->
  ∃x c nd', (K x c).run ob KK nd' = some r/\(nodup c=true->IoRs P B Z w ins vs x (Of ρ c))/\Alive ob c
 | [],vs,Ts,nd,K,h,hb=>by
  cases hb
  exact⟨(),[],nd,h,λ _=>trivial,Alive.nil⟩
 | .one s :: ins,vs,Ts,nd,K,h,⟨v,vs', t1,t2,e1,e2,b1,b2⟩=>by
  subst e1;subst e2;obtain⟨x,c,nd1,h,k1,k2⟩:=Zeu hm s v t1 t2 nd _ h b1;obtain⟨y,c', nd2,h,k3,k4⟩:=Zck hm ins vs' t2 nd1 _ h b2;refine⟨_,c++c', nd2,h,λ hn=>⟨v,vs', Of ρ c,Of ρ c', rfl,?_,?_,λ k hk=>hk.left,λ k hk=>hk.right,Zee hm k2 k4 hn⟩,k2.append k4⟩
  ·show IoR P B Z w (.one s) v (Zaf s.back (ios ins) _).1 _;rw[Zbv];exact k1
  ·show IoRs P B Z w ins vs' (Zaf s.back (ios ins) _).2 _;rw[Zbv];exact k3 (nodup_append hn).2.1
 | .agg ss :: ins,vs,Ts,nd,K,h,⟨v,vs', t1,t2,e1,e2,⟨us,e3,b1⟩,b2⟩=>by
  subst e1;subst e2;obtain⟨x,c,nd1,h,k1,k2⟩:=Zea hm ss us t1 t2 nd _ h b1;obtain⟨y,c', nd2,h,k3,k4⟩:=Zck hm ins vs' t2 nd1 _ h b2;refine⟨_,c++c', nd2,h,λ hn=>⟨v,vs', Of ρ c,Of ρ c', rfl,?_,?_,λ k hk=>hk.left,λ k hk=>hk.right,Zee hm k2 k4 hn⟩,k2.append k4⟩
  ·show IoR P B Z w (.agg ss) v (Zaf (backs ss) (ios ins) _).1 _;rw[Zbv];exact⟨us,e3,k1 (nodup_append hn).1⟩
  ·show IoRs P B Z w ins vs' (Zaf (backs ss) (ios ins) _).2 _;rw[Zbv];exact k3 (nodup_append hn).2.1
 | .ptr true t ss :: ins,vs,Ts,nd,K,h,⟨v,vs', t1,t2,e1,e2,b1,b2⟩=>by
  subst e1;subst e2
  cases b1
  obtain⟨y,c', nd2,h,k3,k4⟩:=Zck hm ins vs' t2 nd _ h b2;exact⟨y,c', nd2,h,λ hn=>⟨v,vs', λ _=>False,Of ρ c', rfl,trivial,k3 hn,λ k hk=>hk.elim,λ k hk=>hk,λ k hk=>hk.elim⟩,k4⟩
 | .non :: ins,vs,Ts,nd,K,h,⟨v,vs', t1,t2,e1,e2,b1,b2⟩=>by
  subst e1;subst e2
  cases b1
  obtain⟨y,c', nd2,h,k3,k4⟩:=Zck hm ins vs' t2 nd _ h b2;exact⟨y,c', nd2,h,λ hn=>⟨v,vs', λ _=>False,Of ρ c', rfl,trivial,k3 hn,λ k hk=>hk.elim,λ k hk=>hk,λ k hk=>hk.elim⟩,k4⟩
 | .eat _ _ _ :: ins,vs,Ts,nd,K,h,⟨v,vs', t1,t2,e1,e2,b1,b2⟩=>by
  subst e1;subst e2
  cases b1
  obtain⟨y,c', nd2,h,k3,k4⟩:=Zck hm ins vs' t2 nd _ h b2;exact⟨y,c', nd2,h,λ hn=>⟨v,vs', λ _=>False,Of ρ c', rfl,trivial,k3 hn,λ k hk=>hk.elim,λ k hk=>hk,λ k hk=>hk.elim⟩,k4⟩
 | .ptr false t ss :: ins,vs,Ts,nd,K,h,⟨v,vs', t1,t2,e1,e2,⟨T,z0,e3,hz0,hv⟩,b2⟩=>by
  subst e1;subst e2;subst e3;simp only[List.singleton_append,ioDen,Zbu]at h;obtain⟨o,ho,h⟩:=h
  cases o with
  | row _ _ _ _=>cases h
  | hole _ _ _ _=>cases h
  | box bt ro cells =>
   cases ro with
   | true=>cases h
   | false =>
    simp only[ZaO]at h;obtain⟨hb,h⟩:=h;obtain rfl:=Nat.eq_of_beq_eq_true hb;obtain⟨g,cs,e1,e2,e3,e4⟩:=Zlb hm ho hz0 hv;obtain⟨x,c,nd1,h,k1,k2⟩:=Zc4 hm ss cells cs _ _ h e3;obtain⟨y,c', nd2,h,k3,k4⟩:=Zck hm ins vs' t2 nd1 _ h b2;have hal:Alive ob (T :: c):=λ U hU=>(List.mem_cons.1 hU).elim (λ e=>by rw[e,ho];rfl) (k2 U)
    refine⟨_,T :: c++c', nd2,h,λ hn=>⟨v,vs', Of ρ (T :: c),Of ρ c', rfl,?_,?_,λ k hk=>hk.left,λ k hk=>hk.right,Zee hm hal k4 hn⟩,hal.append k4⟩
    ·show IoR P B Z w (.ptr false _ ss) v (Zaf ss (ios ins) _).1 _;rw[Zbv];have hn1:=(nodup_append hn).1;exact⟨g,cs,Of ρ c,e1,e2,k1 (by simp only[nodup,Bool.and_eq_true]at hn1;exact hn1.2),e4 c k2 hn1⟩
    ·show IoRs P B Z w ins vs' (Zaf ss (ios ins) _).2 _;rw[Zbv];exact k3 (nodup_append hn).2.1
theorem ZcP.mono {ρ' : Rz}:∀{ss:List LS} {vs:List Value} {Ts:List Nat},(∀T∈Ts,∀z,ρ T=some z->∃z', ρ' T=some z' /\ z'.hdr=z.hdr)->ZcP ρ ss vs Ts->ZcP ρ' ss vs Ts
 | [],_,_,_,h=>h
 | s :: ss,_,_,hh,⟨v,vs', t1,t2,e1,e2,b1,b2⟩=>⟨v,vs', t1,t2,e1,e2,backLS_mono (λ T hT=>hh T (e2 ▸ List.mem_append_left _ hT)) b1,ZcP.mono (λ T hT=>hh T (e2 ▸ List.mem_append_right _ hT)) b2⟩
where
 backLS_mono {ρ' : Rz} {s:LS} {v:Value} {Ts:List Nat} (hh:∀T∈Ts,∀z,ρ T=some z->∃z', ρ' T=some z' /\ z'.hdr=z.hdr) (h:ZfH ρ s v Ts):ZfH ρ' s v Ts:=by
  cases s with
  | v t=>exact h
  | fn asx rt=>exact h
  | own e m t =>
   obtain⟨T,z,rfl,h1,h2⟩:=h;obtain⟨z', h3,h4⟩:=hh T (List.mem_singleton.2 rfl) z h1;exact⟨T,z', rfl,h3,h4.trans h2⟩
theorem ZdA.mono {ρ' : Rz}:∀{ins:List ASh} {vs:List Value} {Ts:List Nat},(∀T∈Ts,∀z,ρ T=some z->∃z', ρ' T=some z' /\ z'.hdr=z.hdr)->ZdA ρ ins vs Ts->ZdA ρ' ins vs Ts
 | [],_,_,_,h=>h
 | a :: ins,_,_,hh,⟨v,vs', t1,t2,e1,e2,b1,b2⟩=>by
  have h1:∀T∈t1,∀z,ρ T=some z->∃z', ρ' T=some z' /\ z'.hdr=z.hdr:=λ T hT=>hh T (e2 ▸ List.mem_append_left _ hT)
  refine⟨v,vs', t1,t2,e1,e2,?_,ZdA.mono (λ T hT=>hh T (e2 ▸ List.mem_append_right _ hT)) b2⟩
  cases a with
  | eat _ _ _=>exact b1
  | non=>exact b1
  | one s=>exact ZcP.mono.backLS_mono h1 b1
  | agg ss =>
   obtain⟨us,k1,k2⟩:=b1;exact⟨us,k1,k2.mono h1⟩
  | ptr ro t ss =>
   cases ro with
   | true=>exact b1
   | false =>
    obtain⟨T,z,rfl,k1,k2⟩:=b1;obtain⟨z', k3,k4⟩:=h1 T (List.mem_singleton.2 rfl) z k1;exact⟨T,z', rfl,k3,k4.trans k2⟩
inductive Each {α δ : Type} (R : α -> δ -> Prop):List α -> List δ -> Prop where
 | nil:Each R [] []
 | cons {a : α} {b : δ} {l:List α} {m:List δ}:R a b->Each R l m->Each R (a :: l) (b :: m)
def Zfp (tmps:Array Value):ResultVar->Sem Value
 | .tmp t=>pure (tmps.getD t undef)
 | .cell a t=>do loadVar t (<-asAddr (tmps.getD a undef))
theorem ZkS (fn:Func) (tmps:Array Value):results fn tmps=(do
  let vs <-fn.results.mapM (Zfp tmps)
  pure (if h:vs.size=1 then vs[0]else .tuple vs)):=rfl
theorem Zj0 {tmps:Array Value}:∀(l:List ResultVar) (us:List Value),Each (λ x u=>(Zfp tmps x).run P w = .ok u w) l us->(l.mapM (Zfp tmps)).run P w = .ok us w
 | [],_,.nil=>by simp
 | x :: l,_,.cons (b:=u) h hs=>by rw[List.mapM_cons];simp[h,Zj0 l _ hs]
theorem Zjk {fn:Func} {tmps:Array Value} {us:List Value} (h:Each (λ x u=>(Zfp tmps x).run P w = .ok u w) fn.results.toList us):(results fn tmps).run P w = .ok (outV us) w:=by
 rw[ZkS,Array.mapM_eq_mapM_toList];simp only[Sem.run_bind,Sem.run_map,Zj0 _ _ h,Result.andThen];rcases us with _|⟨u,_|⟨u', us⟩⟩
 ·simp[outV]
 ·simp[outV]
 ·simp[outV]
theorem Zdx (hm:Mem P B ρ Z (look ob) w) {E:Env} (hE:TtOk P E.tt) {fr:List (Nat×AV)} {a:Act} (hfr:∀t av,lk t fr=some av->AR P B ρ Z w av (a.eval (.tmp t))):∀(res:List ResultVar) (nd:List Nat) (K:List AV->Pg γ),(resPg E fr res K).run ob KK nd=some r ->
  ∃avs us nd', (K avs).run ob KK nd' = some r/\AVs P B ρ Z w avs us/\Each (λ x u=>(Zfp a.tmps x).run P w = .ok u w) res us
 | [],nd,K,h=>⟨[],[],nd,h,rfl,.nil⟩
 | .tmp t :: res,nd,K,h=>by
  unfold resPg at h
  split at h
  ·
   rename_i v hv
   obtain⟨avs,us,nd', h1,h2,h3⟩:=Zdx hm hE hfr res nd _ h;exact⟨v :: avs,_ :: us,nd', h1,⟨_,us,rfl,hfr t v hv,h2⟩,.cons (by simp[Zfp,Act.eval]) h3⟩
  ·cases h
 | .cell b t :: res,nd,K,h=>by
  unfold resPg at h
  split at h
  ·
   rename_i T off i hb hi
   rw[Zbu]at h;obtain⟨o,ho,h⟩:=h
   cases o with
   | row _ _ _ _=>cases h
   | hole _ _ _ _=>cases h
   | box bt ro cells =>
    obtain⟨z,hz,g,vs,h1,h2,h3,h4,h5,h6⟩:=hm.obj T _ ho;have hev:a.eval (.tmp b) = .pointer (some ⟨g,off,none⟩):=by
     obtain⟨z', g', k1,k2,k3⟩:=hfr b _ hb;obtain rfl:z' = z:=Option.some.inj (k1.symm.trans hz);rw[h1]at k2
     cases k2
     exact k3
    have hev:a.tmps.getD b undef = .pointer (some ⟨g,off,none⟩):=hev;have hcell:∀(j:Nat) u,((vs.drop off).take i.size)[j]? = some u->w.cell? ((⟨g,off,none⟩:Addr).add j)=some u:=λ j u hu=>by
     rw[ZbJ,cell_of_row w g (off+j) vs.toArray bt (0,0) h2]
     simpa using ZeP hu
    have hl:=(h3.drop off).take i.size;have ht:=hE t i hi;simp only at h
    split at h
    ·
     rename_i fs hk
     rw[ZaO]at h;obtain⟨hn,h⟩:=h;have hn:=Nat.eq_of_beq_eq_true hn;have hsz:((vs.drop off).take i.size).length=i.size:=by rw[hl.len,hn]
     have hr:=run_loadCells_list (P:=P) w ⟨g,off,none⟩ _ hcell;rw[hsz]at hr;obtain⟨avs,us,nd', g1,g2,g3⟩:=Zdx hm hE hfr res _ _ h;refine⟨_ :: avs,.agg ((vs.drop off).take i.size).toArray :: us,nd', g1,⟨_,us,rfl,⟨_,rfl,hl⟩,g2⟩,.cons ?_ g3⟩;simp[Zfp,hev,asAddr,loadVar,Zd0 ht w hk,Zce ht,hr]
    ·
     rename_i hk
     split at h
     ·
      rename_i l hls
      rw[hls]at hl;obtain⟨v,hv,hv'⟩:=hl.one_inv;have hc0:=hcell 0 v (by rw[hv];rfl);rw[add_zero]at hc0;obtain⟨avs,us,nd', g1,g2,g3⟩:=Zdx hm hE hfr res _ _ h;refine⟨_ :: avs,v :: us,nd', g1,⟨_,us,rfl,hv', g2⟩,.cons ?_ g3⟩;simp[Zfp,hev,asAddr,loadVar,Zcb ht w (λ fs hf=>hk fs hf),hc0]
     ·cases h
  ·cases h
end
structure FnOk (P:Program) (E:Env) (g:FuncId) (fn:Func) (f:Fn):Prop where
 func:P.funcs[g]? = some fn
 body:fn.body=some f.body
 name : (fn.name == "runtime.NumGoroutine") = false
 res:fn.results.toList=f.res
 n:fn.ntmps=E.n
 len:f.ins.length<=E.n
 ro:roOk f.ins=true
 pin:(ZbY f.ins 0).all (λ T=>Nat.blt T E.pin)=true
section
variable {P:Program} {E:Env}
theorem ZmP {B Z S:Nat->Prop} {w:World} {f:Fn} {x:lsd (flats f.ins)} {vs:List Value} (hro:roOk f.ins=true) (hlen:f.ins.length<=E.n) (h:ASRs P B Z w f.ins x vs S) (hS:∀k,S k->¬ Z k/\¬ B k/\k < w.heap.size) (hZ:∀k,Z k->k < w.heap.size) (hB:∀k,B k->k < w.heap.size) :
  ∃ρ0:Rz,(∀k,Own ρ0 (look (entry f.ins x).ob) k->S k)/\ZdA ρ0 f.ins vs (ZbY f.ins 0)/\At P B E.n E.pin ρ0 Z (look (entry f.ins x).ob) w (entry f.ins x) { tmps:=vs.toArray++Array.replicate (E.n - vs.toArray.size) undef,defers:=[] } w:=by
 obtain⟨zl,k1,k2,k3,k4⟩:=Zcm f.ins x vs S 0 0 hro h;have e:entry f.ins x=⟨(mkIns f.ins x 0 0).1,(mkIns f.ins x 0 0).2.1,(mkIns f.ins x 0 0).2.2⟩:=rfl;rw[e];obtain⟨c1,c2⟩:=k4 (λ T=>lk T zl) λ _ _ h=>h
 have hown:∀k,Own (λ T=>lk T zl) (look (mkIns f.ins x 0 0).2.1) k->S k:=λ k ⟨T,z,_,h2,h3⟩=>k1.sub T z h2 k h3
 have hvs:vs.length<=E.n:=by rw[k3];exact hlen
 refine⟨λ T=>lk T zl,hown,c2,⟨λ T=>lk T zl,Z,_,rfl,⟨λ T o ho => ?_,λ T T' z z' k hne _ _ h1 h2=>k1.dis T T' z z' k hne h1 h2,λ k hk=>⟨(hS k (hown k hk)).1,(hS k (hown k hk)).2.2⟩,hZ,λ k hk=>(hS k (hown k hk)).2.1,hB⟩,Bas.refl,λ t av hav => ?_,?_,rfl,λ T (hT:(mkIns f.ins x 0 0).2.2<=T)=>ZcX λ hk => ?_⟩⟩
 ·
  have hk:T∈keys zl:=k1.key ▸ ZbZ ho;rw[ZbA]at hk
  cases hz:lk T zl with
  | none=>rw[hz]at hk;cases hk
  | some z=>exact⟨z,rfl,k1.ors _ (λ _ _ h=>h) T o z ho hz⟩
 ·
  obtain⟨i,v,h1,h2,h3⟩:=c1 t av hav;rw[Nat.zero_add]at h1;subst h1;have hi:=(List.getElem?_eq_some_iff.1 h2).1;have:({ tmps:=vs.toArray++Array.replicate (E.n - vs.toArray.size) undef,defers:=[] }:Act).eval (.tmp t)=v:=by simp only[Act.eval,Array.getD_eq_getD_getElem?];rw[Array.getElem?_append_left (by simpa using hi)];simp[h2]
  rw[this];exact h3
 ·simp;omega
 ·have:=(k2.lo T hk).2;omega
theorem Zh2 {B Z S:Nat->Prop} {w w' : World} {f:Fn} {vs:List Value} {ρ0:Rz} {ob0:Obs} {σ : St} {a:Act} {yz:lsd (flats f.outs)×lsd (ios f.ins)} {fn:Func} (hE:EnvOk P E) (hres:fn.results.toList=f.res) (hpin:(ZbY f.ins 0).all (λ T=>Nat.blt T E.pin)=true)
  (hS:∀k,Own ρ0 ob0 k->S k) (hb:ZdA ρ0 f.ins vs (ZbY f.ins 0)) (h:At P B E.n E.pin ρ0 Z ob0 w σ a w') (hc:collect E f σ = some yz) :
  a.defers=[]/\∃u,(results fn a.tmps).run P w' = .ok u w' /\ ∃Z' Fi Fo,PostR P B Z S w f.ins f.outs vs yz.1 yz.2 u w' Z' Fi Fo:=by
 obtain⟨ρ,Z', L,h1,hm,hbas,hfr,h5,h6,h7⟩:=h;refine⟨h6,?_⟩;unfold collect at hc;obtain⟨avs,us,nd1,hc,k1,k2⟩:=Zdx hm hE.tt (a:=a) hfr _ _ _ hc;obtain⟨y,c,nd2,hc,k3,k4⟩:=Zc8 hm _ _ us _ _ hc k1;have hb' : ZdA ρ f.ins vs (ZbY f.ins 0):=hb.mono λ T hT z hz=>hbas.hdr T z (by
  rw[List.all_eq_true]at hpin
  simpa using hpin T hT) hz
 obtain⟨z,c', nd3,hc,k5,k6⟩:=Zck hm _ vs _ _ _ hc hb';rw[ZaO]at hc;obtain⟨hn,hc⟩:=hc;have hc:some (y,z)=some yz:=hc
 cases hc
 obtain⟨n1,n2,n3⟩:=nodup_append hn;rw[<-hres]at k2;refine⟨outV us,Zjk k2,Z', Of ρ c', Of ρ c,k5 n2,⟨us,rfl,k3 n1⟩,λ k hk hk' => Zee hm k4 k6 hn k hk' hk,λ k hk => ?_,hbas.zm,λ k hk=>⟨?_,hm.zlt k hk⟩,hbas.os,hbas.tape,hbas.output,hbas.size,λ k hk hs=>hbas.old k hk λ ho=>hs (hS k ho)⟩
 ·
  have ho:Own ρ (look σ.ob) k:=hk.elim (λ h=>h.own k6) λ h=>h.own k4
  exact⟨(hbas.own k ho).imp (hS k) id,(hm.zsep k ho).2,(hm.zsep k ho).1⟩
 ·
  rcases hbas.zn k hk with h|h|h
  ·exact .inl h
  ·exact .inr (.inl (hS k h))
  ·exact .inr (.inr h)
theorem ZjR (hE:EnvOk P E) (hm:P.follows .mixedOrders=true) {g:FuncId} {fn:Func} {f:Fn} (h:FnOk P E g fn f) {R:Type} {enc:lsd (flats f.outs)×lsd (ios f.ins)->R} {dec:R->lsd (flats f.outs)×lsd (ios f.ins)} (hde:∀y,dec (enc y)=y):Valid P g ⟨f.ins,f.outs,R,denF E f enc,dec⟩:=by
 refine⟨⟨fn,h.func,h.name,by rw[h.body];rfl⟩,λ x r hx Z B S w vs hargs hS hZ hB => ?_⟩
 obtain⟨ρ0,e1,e2,e3⟩:=ZmP (E:=E) (f:=f) h.ro h.len hargs hS hZ hB;refine calls_of_wp h.func h.body ?_;rw[h.n];have out:∀{yz},(collect E f yz).map enc=some r->∃y,collect E f yz=some y/\dec r=y:=λ {σ} h=>by
  cases hc:collect E f σ with
  | none=>rw[hc]at h;cases h
  | some y =>
   rw[hc]at h
   cases h
   exact⟨y,rfl,hde y⟩
 refine Zkx hE hm f.body (retG f enc E) r (entry f.ins x) _ w _ hx e3 λ ex σ' a' w' hk hat => ?_
 cases ex with
 | normal =>
  obtain⟨y,hy,e⟩:=out hk;obtain⟨d,u,hr,hp⟩:=Zh2 (fn:=fn) hE h.res h.pin e1 e2 hat hy;exact⟨d,u,hr,u,rfl,by show ∃Z' Fi Fo,PostR P B Z S w f.ins f.outs vs (dec r).1 (dec r).2 u w' Z' Fi Fo;rw[e];exact hp⟩
 | exit i=>cases hk
 | ret =>
  obtain⟨y,hy,e⟩:=out hk;obtain⟨d,u,hr,hp⟩:=Zh2 (fn:=fn) hE h.res h.pin e1 e2 hat hy;exact⟨d,u,hr,u,rfl,by show ∃Z' Fi Fo,PostR P B Z S w f.ins f.outs vs (dec r).1 (dec r).2 u w' Z' Fi Fo;rw[e];exact hp⟩
end
theorem run_bind {γ β δ : Type} (ob:List (Nat×Ob)) (K : γ -> List Nat->Option β) (G : β -> Option δ):∀(pg:Pg γ) (nd:List Nat),pg.run ob (λ g n=>(K g n).bind G) nd=(pg.run ob K nd).bind G:=by
 intro pg
 induction pg with
 | fail=>intro nd;rfl
 | ret g=>intro nd;rfl
 | obj T f ih =>
  intro nd;unfold Pg.run
  cases lk T ob with
  | none=>rfl
  | some o=>exact ih o _
 | test p d x y ihx ihy =>
  intro nd;unfold Pg.run
  by_cases hp:p
  ·rw[if_pos hp,if_pos hp];exact ihx nd
  ·rw[if_neg hp,if_neg hp];exact ihy nd
 | call v f ih =>
  intro nd;unfold Pg.run
  cases v with
  | none=>rfl
  | some a=>exact ih a nd
theorem ZlH {β δ : Type} (E:Env) (σ : St) (dec:List (Nat×Bool)) (o:Oper) (k:St->Trc->Option β) (G : β -> Option δ):goOp E σ dec o (λ s t=>(k s t).bind G)=(goOp E σ dec o k).bind G:=by
 unfold goOp;rw[<-run_bind]
 congr 1
 funext e nd
 split
 ·cases newOk σ e _ e.add.length && dstOk E o.dst <;> rfl
 ·rfl
theorem Zmk {β δ : Type} (E:Env) (o:Oper) (x:Option β) (G : β -> Option δ):skOp E o (x.bind G)=(skOp E o x).bind G:=by
 unfold skOp
 cases dstOk E o.dst <;> rfl
theorem Zem {β δ : Type} (E:Env) (all:List Oper) (K:St->List Trc->Option β) (G : β -> Option δ):∀(ops:List Oper) (σ : St) (dec:List (Nat×Bool)) (tr:List Trc),Zb8 E all (λ s t=>(K s t).bind G) ops σ dec tr=(Zb8 E all K ops σ dec tr).bind G
 | [],σ,dec,tr=>rfl
 | o :: r,σ,dec,tr=>by
  have go:∀dec,goOp E σ dec o (λ s t=>Zb8 E all (λ s t=>(K s t).bind G) r s (rmD o.dst dec) (t :: tr))=(goOp E σ dec o (λ s t=>Zb8 E all K r s (rmD o.dst dec) (t :: tr))).bind G:=λ dec=>by
   rw[<-ZlH]
   congr 1
   funext s t
   exact Zem E all K G r s _ _
  have sk:∀dec,skOp E o (Zb8 E all (λ s t=>(K s t).bind G) r (σ.skip o.dst) (rmD o.dst dec) (([],[]) :: tr))=(skOp E o (Zb8 E all K r (σ.skip o.dst) (rmD o.dst dec) (([],[]) :: tr))).bind G:=λ dec=>by rw[<-Zmk,Zem E all K G r]
  unfold Zb8
  split
  ·exact go dec
  ·
   split
   ·rfl
   ·
    split
    ·
     rename_i b _
     cases b == _
     ·exact sk dec
     ·exact go dec
    ·
     split
     ·
      rename_i n p d _
      by_cases hp:p
      ·
       rw[if_pos hp,if_pos hp]
       generalize (!n == _)=bb
       cases bb
       ·exact sk _
       ·exact go _
      ·
       rw[if_neg hp,if_neg hp]
       generalize (n == _)=bb
       cases bb
       ·exact sk _
       ·exact go _
     ·exact sk dec
     ·rfl
theorem ZgG {β δ : Type} (G : β -> Option δ):∀(l:List (Operand×Operand)) (σ : St) (k:St->Option β),openR l σ (λ s=>(k s).bind G)=(openR l σ k).bind G
 | [],_,_=>rfl
 | (x,i) :: l,σ,k=>by
  unfold openR
  split
  ·
   rw[<-run_bind]
   congr 1
   funext add nd
   exact ZgG G l _ k
  ·rfl
theorem ZkH {β δ : Type} (E:Env) (id:Nat) (σ : St) (k:St->Option β) (G : β -> Option δ):openH E id σ (λ s=>(k s).bind G)=(openH E id σ k).bind G:=by
 unfold openH
 split
 ·exact ZgG G _ _ _
 ·rfl
theorem Zmj {β δ : Type} (k:St->Option β) (K:Ex->St->Option β) (G : β -> Option δ):(λ e s=>(seqK k K e s).bind G)=seqK (λ s=>(k s).bind G) (λ e s=>(K e s).bind G):=by
 funext e s
 cases e <;> rfl
theorem Zk8 {β δ : Type} (id:Nat) (K:Ex->St->Option β) (G : β -> Option δ):(λ e s=>(blkK id K e s).bind G)=blkK id (λ e s=>(K e s).bind G):=by
 funext e s
 cases e with
 | exit i =>
  show(bif Nat.beq i id then K .normal s else K (.exit i) s).bind G=bif Nat.beq i id then(K .normal s).bind G else(K (.exit i) s).bind G
  cases Nat.beq i id <;> rfl
 | _=>rfl
theorem Zlp (E:Env):∀(c:Code) {β δ : Type} (σ : St) (K:Ex->St->Option β) (G : β -> Option δ),denC E c σ (λ e s=>(K e s).bind G)=(denC E c σ K).bind G:=by
 intro c
 induction c with
 | skip=>intro β δ σ K G;simp only[denC]
 | region id ops draw =>
  intro β δ σ K G;simp only[denC];rw[<-ZkH]
  congr 1
  funext σ
  rw[<-Zem]
  congr 1
  funext s tr
  cases draw
  ·rfl
  ·cases h:bern ops tr <;> simp
 | seq x y ihx ihy =>
  intro β δ σ K G;simp only[denC];rw[<-ihx,Zmj]
  congr 2
  funext s
  exact ihy s K G
 | cond c x y ihx ihy =>
  intro β δ σ K G;simp only[denC]
  split
  ·
   rename_i n p d _
   by_cases hp:p
   ·
    rw[if_pos hp,if_pos hp]
    cases n
    ·exact ihx σ K G
    ·exact ihy σ K G
   ·
    rw[if_neg hp,if_neg hp]
    cases n
    ·exact ihy σ K G
    ·exact ihx σ K G
  ·rfl
 | block id c ih =>
  intro β δ σ K G;simp only[denC];rw[<-ih,Zk8]
 | loop c ih =>
  intro β δ σ K G;simp only[denC]
  cases loopR (λ s=>denC E c s (backK E (rid c))) (nrm E (rid c) σ) <;> rfl
 | exit id=>intro β δ σ K G;simp only[denC]
 | ret=>intro β δ σ K G;simp only[denC]
 | _=>intro β δ σ K G;simp[denC]
theorem ZhW (E:Env) (c:Code) {β : Type} (σ : St) (K:Ex->St->Option β):denC E c σ K=(denC E c σ λ e s=>some (e,s)).bind λ p=>K p.1 p.2:=by
 rw[<-Zlp]
 rfl
section
variable {f:St->Option (Ex×St)}
theorem ZfX:∀{n m:Nat} {σ : St} {p:Ex×St},iter f n σ = some p->n<=m->iter f m σ = some p
 | 0,_,_,_,h,_=>by cases h
 | n+1,0,_,_,_,h=>absurd h (Nat.not_succ_le_zero n)
 | n+1,m+1,σ,p,h,hm=>by
  unfold iter at h ⊢
  split
  ·
   rename_i s hs
   rw[hs]at h;exact ZfX h (Nat.le_of_succ_le_succ hm)
  ·
   rename_i r hr
   split at h
   ·
    rename_i s hs
    exact absurd hs (λ hs=>hr s hs)
   ·exact h
theorem Ze4 {n:Nat} {σ : St} {p:Ex×St} (h:iter f n σ = some p):loopR f σ = some p:=by
 have hx:∃n,(iter f n σ).isSome=true:=⟨n,by rw[h];rfl⟩
 unfold loopR;rw[dif_pos hx];have hc:=Classical.choose_spec hx
 generalize Classical.choose hx=m at hc ⊢
 cases hm:iter f m σ with
 | none=>rw[hm]at hc;cases hc
 | some q =>
  have h1:=ZfX h (Nat.le_max_left n m);have h2:=ZfX hm (Nat.le_max_right n m);rw[h1]at h2;exact h2.symm
theorem ZgF {σ : St} {p:Ex×St} (h:loopR f σ = some p):∃n,iter f n σ = some p:=by
 unfold loopR at h
 split at h
 ·exact⟨_,h⟩
 ·cases h
def back (f:St->Option (Ex×St)) (g:St->Option (Ex×St)):Option (Ex×St)->Option (Ex×St)
 | some (.normal,s)=>g s
 | r=>r
theorem ZkE (σ : St):loopR f σ = back f (loopR f) (f σ):=by
 cases hl:back f (loopR f) (f σ)with
 | none =>
  cases hr:loopR f σ with
  | none=>rfl
  | some p =>
   obtain⟨n,hn⟩:=ZgF hr
   exfalso
   cases n with
   | zero=>cases hn
   | succ n =>
    unfold iter at hn;unfold back at hl
    split at hn
    ·
     rename_i s hs
     rw[hs]at hl;have:=Ze4 hn;simp only at hl;rw[this]at hl;cases hl
    ·
     rename_i r hr'
     split at hl
     ·rename_i s hs;exact hr' s hs
     ·rw[hl]at hn;cases hn
 | some p =>
  unfold back at hl
  split at hl
  ·
   rename_i s hs
   obtain⟨n,hn⟩:=ZgF hl;exact Ze4 (n:=n+1) (by unfold iter;rw[hs];exact hn)
  ·
   rename_i r hr
   refine Ze4 (n:=1) ?_;unfold iter
   split
   ·rename_i s hs;exact absurd hs (hr s)
   ·exact hl
end
theorem Zm (E:Env) (c:Code) {β : Type} (s:St) (K:Ex->St->Option β):denC E (.loop c) s K=denC E c (nrm E (rid c) s) (seqK (λ s=>denC E (.loop c) s K) K):=by
 have h1:∀s,denC E (.loop c) s K=(loopR (λ s=>denC E c s (backK E (rid c))) (nrm E (rid c) s)).bind λ p=>K p.1 p.2:=λ s=>by simp only[denC]
 rw[h1,ZkE,ZhW E c (nrm E (rid c) s) (seqK (λ s=>denC E (.loop c) s K) K),ZhW E c (nrm E (rid c) s) (backK E (rid c))]
 cases denC E c (nrm E (rid c) s) (λ e s=>some (e,s))with
 | none=>rfl
 | some p =>
  obtain⟨e,s'⟩:=p
  cases e with
  | normal=>exact(h1 s').symm
  | exit i=>rfl
  | ret=>rfl
def rd (xs:List Int) (i:Int):Int:=xs.getD i.toNat 0
def row (xs:List (List Int)) (i:Int):List Int:=xs.getD i.toNat []
def T (g:List (List Int)) (a b:Int):Int:=rd (row g a) b
section
variable {P:Program} {t:TypeId}
def stOf:TypeDesc->Option (Array Field)
 | .struct f=>some f
 | _=>none
theorem ZfY {fs:List (Nat×TypeId)} (h1:((P.underlying t).bind stOf).map (λ fields=>fields.toList.map λ f=>(f.offset,f.type))=some fs) (h2:(((P.underlying t).bind stOf).bind λ fields=>fields.toList.mapM λ f=>(P.info? f.type).map λ i=>(f.offset,i.size)).isSome=true):ZkZ P t (.st fs):=by
 cases hu:P.underlying t with
 | none=>rw[hu]at h1;cases h1
 | some d =>
  rw[hu]at h1 h2
  cases d <;> first|(cases h1;done)|skip
  rename_i fields
  simp only[Option.bind_some,stOf,Option.map_some,Option.some.injEq]at h1 h2
  cases hm:fields.toList.mapM λ f=>(P.info? f.type).map λ i=>(f.offset,i.size)with
  | none=>rw[hm]at h2;cases h2
  | some places=>exact⟨fields,hu,h1,places,hm⟩
theorem tiMk {k:TK} {size bytes:Nat} {zero:List Lf} {ty:Ty} (hk:ZkZ P t k) (h1:(P.info? t).map (λ i=>(i.size,i.bytes))=some (size,bytes)) (h2:((P.info? t).bind (·.zero)).bind (λ z=>Zd5 z.cells.toList)=some zero) (h3:((P.info? t).bind (·.zero)).map (λ z=>z.cells.toList)=some (zcells ty)):TiOk P t ⟨k,size,bytes,zero,ty,true⟩:=by
 refine⟨hk,?_⟩
 cases hi:P.info? t with
 | none=>rw[hi]at h1;cases h1
 | some i =>
  rw[hi]at h1 h2 h3;simp only[Option.map_some,Option.some.injEq,Prod.mk.injEq]at h1;refine⟨i,rfl,h1.1,h1.2,λ _ _ => ?_⟩
  cases hz:i.zero with
  | none=>simp[hz]at h2
  | some z =>
   simp only[Option.bind_some,hz,Option.map_some,Option.some.injEq]at h2 h3;exact⟨z,rfl,h2,λ _=>h3⟩
theorem ttNil:TtOk P []:=λ _ _ h=>by cases h
theorem Zcf {i:TI} {r:List (Nat×TI)} (h:TiOk P t i) (hr:TtOk P r):TtOk P ((t,i) :: r):=λ u j hj=>by
 by_cases e:u=t
 ·subst e;simp[lk]at hj;subst hj;exact h
 ·simp[lk,ZbM e]at hj;exact hr u j hj
theorem Zat:ZdB P []:=λ _ _ h=>by cases h
theorem Zo {g:FuncId} {c:Con} {r:List (Nat×Con)} (h:Valid P g c) (hr:ZdB P r):ZdB P ((g,c) :: r):=λ u j hj=>by
 by_cases e:u=g
 ·subst e;simp[lk]at hj;subst hj;exact h
 ·simp[lk,ZbM e]at hj;exact hr u j hj
end
end Go.Proofs.YtdamfbighdkcbaaGreat.D
namespace Go.Proofs.YtdamfbighdkcbaaGreat.P
open Go Go.RowKit Go.Proofs.YtdamfbighdkcbaaGreat.D
theorem ti2:TiOk Tryz.prog 2 ⟨.int .i64,1,8,[.int .i64 0],(.int .i64),true⟩:=tiMk (show Tryz.prog.underlying 2=some (.int .i64)by kernel_rfl) (by kernel_rfl) (by kernel_rfl) (by kernel_rfl)
theorem ti3:TiOk Tryz.prog 3 ⟨.int .i64,1,8,[.int .i64 0],(.int .i64),true⟩:=tiMk (show Tryz.prog.underlying 3=some (.int .i64)by kernel_rfl) (by kernel_rfl) (by kernel_rfl) (by kernel_rfl)
theorem ti4:TiOk Tryz.prog 4 ⟨.bool,1,1,[fls],.bool,true⟩:=tiMk (show Tryz.prog.underlying 4=some .bool by kernel_rfl) (by kernel_rfl) (by kernel_rfl) (by kernel_rfl)
theorem ti5:TiOk Tryz.prog 5 ⟨.int .u8,1,1,[.int .u8 0],(.int .u8),true⟩:=tiMk (show Tryz.prog.underlying 5=some (.int .u8)by kernel_rfl) (by kernel_rfl) (by kernel_rfl) (by kernel_rfl)
theorem ti9:TiOk Tryz.prog 9 ⟨.str,1,16,[.str ByteArray.empty],.str,true⟩:=tiMk (show Tryz.prog.underlying 9=some .string by kernel_rfl) (by kernel_rfl) (by kernel_rfl) (by kernel_rfl)
theorem ti22:TiOk Tryz.prog 22 ⟨.sl 25,1,24,[.nil],(.sl 25 (.sl 2 (.int .i64))),true⟩:=tiMk (show Tryz.prog.underlying 22=some (.slice 25)by kernel_rfl) (by kernel_rfl) (by kernel_rfl) (by kernel_rfl)
theorem ti24:TiOk Tryz.prog 24 ⟨.st [(0,22)],1,24,[.nil],(.sl 25 (.sl 2 (.int .i64))),true⟩:=tiMk (ZfY (by kernel_rfl) (by kernel_rfl)) (by kernel_rfl) (by kernel_rfl) (by kernel_rfl)
theorem ti25:TiOk Tryz.prog 25 ⟨.sl 2,1,24,[.nil],(.sl 2 (.int .i64)),true⟩:=tiMk (show Tryz.prog.underlying 25=some (.slice 2)by kernel_rfl) (by kernel_rfl) (by kernel_rfl) (by kernel_rfl)
theorem ti27:TiOk Tryz.prog 27 ⟨.st [(0,2),(1,25)],2,32,[.int .i64 0,.nil],(.pr (.int .i64) (.sl 2 (.int .i64))),true⟩:=tiMk (ZfY (by kernel_rfl) (by kernel_rfl)) (by kernel_rfl) (by kernel_rfl) (by kernel_rfl)
theorem ti32:TiOk Tryz.prog 32 ⟨.st [(0,22)],1,24,[.nil],(.sl 25 (.sl 2 (.int .i64))),true⟩:=tiMk (ZfY (by kernel_rfl) (by kernel_rfl)) (by kernel_rfl) (by kernel_rfl) (by kernel_rfl)
theorem ti34:TiOk Tryz.prog 34 ⟨.st [(0,2),(1,25)],2,32,[.int .i64 0,.nil],(.pr (.int .i64) (.sl 2 (.int .i64))),true⟩:=tiMk (ZfY (by kernel_rfl) (by kernel_rfl)) (by kernel_rfl) (by kernel_rfl) (by kernel_rfl)
theorem ti43:TiOk Tryz.prog 43 ⟨.sl 5,1,24,[.nil],(.sl 5 (.int .u8)),true⟩:=tiMk (show Tryz.prog.underlying 43=some (.slice 5)by kernel_rfl) (by kernel_rfl) (by kernel_rfl) (by kernel_rfl)
theorem ti51:TiOk Tryz.prog 51 ⟨.st [(0,2),(1,25)],2,32,[.int .i64 0,.nil],(.pr (.int .i64) (.sl 2 (.int .i64))),true⟩:=tiMk (ZfY (by kernel_rfl) (by kernel_rfl)) (by kernel_rfl) (by kernel_rfl) (by kernel_rfl)
theorem ti102:TiOk Tryz.prog 102 ⟨.st [(0,2),(1,22)],2,32,[.int .i64 0,.nil],(.pr (.int .i64) (.sl 25 (.sl 2 (.int .i64)))),true⟩:=tiMk (ZfY (by kernel_rfl) (by kernel_rfl)) (by kernel_rfl) (by kernel_rfl) (by kernel_rfl)
theorem ti110:TiOk Tryz.prog 110 ⟨.sl 51,1,24,[.nil],(.sl 51 (.pr (.int .i64) (.sl 2 (.int .i64)))),true⟩:=tiMk (show Tryz.prog.underlying 110=some (.slice 51)by kernel_rfl) (by kernel_rfl) (by kernel_rfl) (by kernel_rfl)
theorem ti113:TiOk Tryz.prog 113 ⟨.int .u64,1,8,[.int .u64 0],(.int .u64),true⟩:=tiMk (show Tryz.prog.underlying 113=some (.int .u64)by kernel_rfl) (by kernel_rfl) (by kernel_rfl) (by kernel_rfl)
theorem ti115:TiOk Tryz.prog 115 ⟨.st [(0,43),(1,3),(2,113)],3,40,[.nil,.int .i64 0,.int .u64 0],(.pr (.sl 5 (.int .u8)) (.pr (.int .i64) (.int .u64))),true⟩:=tiMk (ZfY (by kernel_rfl) (by kernel_rfl)) (by kernel_rfl) (by kernel_rfl) (by kernel_rfl)
theorem ti116:TiOk Tryz.prog 116 ⟨.int .u64,1,8,[.int .u64 0],(.int .u64),true⟩:=tiMk (show Tryz.prog.underlying 116=some (.int .u64)by kernel_rfl) (by kernel_rfl) (by kernel_rfl) (by kernel_rfl)
theorem ti123:TiOk Tryz.prog 123 ⟨.sl 3,1,24,[.nil],(.sl 3 (.int .i64)),true⟩:=tiMk (show Tryz.prog.underlying 123=some (.slice 3)by kernel_rfl) (by kernel_rfl) (by kernel_rfl) (by kernel_rfl)
theorem ti130:TiOk Tryz.prog 130 ⟨.sl 9,1,24,[.nil],(.sl 9 .str),true⟩:=tiMk (show Tryz.prog.underlying 130=some (.slice 9)by kernel_rfl) (by kernel_rfl) (by kernel_rfl) (by kernel_rfl)
theorem ti142:TiOk Tryz.prog 142 ⟨.sl 34,1,24,[.nil],(.sl 34 (.pr (.int .i64) (.sl 2 (.int .i64)))),true⟩:=tiMk (show Tryz.prog.underlying 142=some (.slice 34)by kernel_rfl) (by kernel_rfl) (by kernel_rfl) (by kernel_rfl)
theorem ti162:TiOk Tryz.prog 162 ⟨.int .i64,1,8,[.int .i64 0],(.int .i64),true⟩:=tiMk (show Tryz.prog.underlying 162=some (.int .i64)by kernel_rfl) (by kernel_rfl) (by kernel_rfl) (by kernel_rfl)
noncomputable def TT:List (Nat×TI):=[(2,⟨.int .i64,1,8,[.int .i64 0],(.int .i64),true⟩),(3,⟨.int .i64,1,8,[.int .i64 0],(.int .i64),true⟩),(4,⟨.bool,1,1,[fls],.bool,true⟩),(5,⟨.int .u8,1,1,[.int .u8 0],(.int .u8),true⟩),(9,⟨.str,1,16,[.str ByteArray.empty],.str,true⟩),(22,⟨.sl 25,1,24,[.nil],(.sl 25 (.sl 2 (.int .i64))),true⟩),(24,⟨.st [(0,22)],1,24,[.nil],(.sl 25 (.sl 2 (.int .i64))),true⟩),(25,⟨.sl 2,1,24,[.nil],(.sl 2 (.int .i64)),true⟩),(27,⟨.st [(0,2),(1,25)],2,32,[.int .i64 0,.nil],(.pr (.int .i64) (.sl 2 (.int .i64))),true⟩),(32,⟨.st [(0,22)],1,24,[.nil],(.sl 25 (.sl 2 (.int .i64))),true⟩),(34,⟨.st [(0,2),(1,25)],2,32,[.int .i64 0,.nil],(.pr (.int .i64) (.sl 2 (.int .i64))),true⟩),(43,⟨.sl 5,1,24,[.nil],(.sl 5 (.int .u8)),true⟩),(51,⟨.st [(0,2),(1,25)],2,32,[.int .i64 0,.nil],(.pr (.int .i64) (.sl 2 (.int .i64))),true⟩),(102,⟨.st [(0,2),(1,22)],2,32,[.int .i64 0,.nil],(.pr (.int .i64) (.sl 25 (.sl 2 (.int .i64)))),true⟩),(110,⟨.sl 51,1,24,[.nil],(.sl 51 (.pr (.int .i64) (.sl 2 (.int .i64)))),true⟩),(113,⟨.int .u64,1,8,[.int .u64 0],(.int .u64),true⟩),(115,⟨.st [(0,43),(1,3),(2,113)],3,40,[.nil,.int .i64 0,.int .u64 0],(.pr (.sl 5 (.int .u8)) (.pr (.int .i64) (.int .u64))),true⟩),(116,⟨.int .u64,1,8,[.int .u64 0],(.int .u64),true⟩),(123,⟨.sl 3,1,24,[.nil],(.sl 3 (.int .i64)),true⟩),(130,⟨.sl 9,1,24,[.nil],(.sl 9 .str),true⟩),(142,⟨.sl 34,1,24,[.nil],(.sl 34 (.pr (.int .i64) (.sl 2 (.int .i64)))),true⟩),(162,⟨.int .i64,1,8,[.int .i64 0],(.int .i64),true⟩)]
theorem ttOk:TtOk Tryz.prog TT:=(Zcf ti2 (Zcf ti3 (Zcf ti4 (Zcf ti5 (Zcf ti9 (Zcf ti22 (Zcf ti24 (Zcf ti25 (Zcf ti27 (Zcf ti32 (Zcf ti34 (Zcf ti43 (Zcf ti51 (Zcf ti102 (Zcf ti110 (Zcf ti113 (Zcf ti115 (Zcf ti116 (Zcf ti123 (Zcf ti130 (Zcf ti142 (Zcf ti162 ttNil))))))))))))))))))))))
theorem fnV (f:D.Fn) (E:Env) {R:Type} (enc:lsd (flats f.outs)×lsd (ios f.ins)->R) {g:FuncId} {fn:Func} {dec:R->lsd (flats f.outs)×lsd (ios f.ins)} (hE:EnvOk Tryz.prog E) (h:Tryz.prog.funcs[g]? = some fn) (h1:fn.body=some f.body:=by kernel_rfl)
  (h2 : (fn.name == "runtime.NumGoroutine") = false := by kernel_rfl)
  (h3:fn.results.toList=f.res:=by kernel_rfl) (h4:fn.ntmps=E.n:=by kernel_rfl) (h5:f.ins.length<=E.n:=by decide) (h6:roOk f.ins=true:=by kernel_rfl) (h7:(ZbY f.ins 0).all (λ T=>Nat.blt T E.pin)=true:=by kernel_rfl) (h8:∀y,dec (enc y)=y:=by exact λ _=>rfl):Valid Tryz.prog g ⟨f.ins,f.outs,R,denF E f enc,dec⟩:=ZjR hE (Checked.mixed Tryz.checked) ⟨h,h1,h2,h3,h4,h5,h6,h7⟩ h8
end Go.Proofs.YtdamfbighdkcbaaGreat.P
set_option maxRecDepth 100000
namespace Go.Proofs.YtdamfbighdkcbaaGreat.P
open Go Go.RowKit Go.Proofs.YtdamfbighdkcbaaGreat.D
noncomputable def Zbg.E:Env:={ tt:=TT,con:=[],frz:=[],rows:=[],live:=[],n:=15,pin:=0,nils:=[] }
noncomputable def Zbg.fn:D.Fn:={ body:=Tryz.f75.body.getD .skip,res:=Tryz.f75.results.toList,ins:=[.one (.v (.int .i64)),.one (.v (.int .i64)),.one (.v (.int .i64))],outs:=[.one (.v .bool)] }
def Zbg.enc (y:lsd (flats Zbg.fn.outs)×lsd (ios Zbg.fn.ins)):Bool:=y.1.1
noncomputable def Zbg.f (a0:Int) (a1:Int) (a2:Int):Option Bool:=denF Zbg.E Zbg.fn Zbg.enc (a0,a1,a2,())
theorem Zbg.f_eq (a0:Int) (a1:Int) (a2:Int):Zbg.f a0 a1 a2=if a0>=a1 then(some (decide (a0<=a2)))else(some false):=by kernel_rfl
noncomputable def Zbg.con:Con:=⟨Zbg.fn.ins,Zbg.fn.outs,Bool,λ x=>Zbg.f x.1 x.2.1 x.2.2.1,λ r=>((r,()),(()))⟩
theorem Zbg.valid:Valid Tryz.prog 75 Zbg.con:=fnV Zbg.fn Zbg.E Zbg.enc ⟨ttOk,Zat⟩ Tryz.func75
noncomputable def Zy.E:Env:={ tt:=TT,con:=[(75,Zbg.con)],frz:=[],rows:=[],live:=[(5,[1,3,4]),(10,[1,3,4,5]),(15,[1,3,6]),(21,[1,3,6,7,8]),(25,[1,3,6,7,8,9])],n:=137,pin:=0,nils:=[7] }
noncomputable def Zy.fn:D.Fn:={ body:=Tryz.f73.body.getD .skip,res:=Tryz.f73.results.toList,ins:=[.agg [.v (.sl 25 (.sl 2 (.int .i64)))]],outs:=[.one (.v .bool)] }
def Zy.enc (y:lsd (flats Zy.fn.outs)×lsd (ios Zy.fn.ins)):Bool:=y.1.1
noncomputable def Zy.f (l0_0:List (List Int)):Option Bool:=denF Zy.E Zy.fn Zy.enc (l0_0,())
noncomputable def Zy.l0 (x3:Int) (x4:Int) (b0_0:List (List Int)):Option Bool:=denAt Zy.E Zy.fn Zy.enc [1,1,1,0,1,0] { fr:=[(1,.lf (.box 0 0)),(3,.lf (.int .i64 x3)),(4,.lf (.int .i64 x4))],ob:=[(0,.box 32 false [.sl (.sl 2 (.int .i64)) b0_0])],nx:=1 }
noncomputable def Zy.l1 (x3:Int) (x4:Int) (x5:Int) (b0_0:List (List Int)):Option Bool:=denAt Zy.E Zy.fn Zy.enc [1,1,1,0,1,0,0,1,0,0,1,1,0] { fr:=[(1,.lf (.box 0 0)),(3,.lf (.int .i64 x3)),(4,.lf (.int .i64 x4)),(5,.lf (.int .i64 x5))],ob:=[(0,.box 32 false [.sl (.sl 2 (.int .i64)) b0_0])],nx:=1 }
noncomputable def Zy.l2 (x3:Int) (x6:Int) (b0_0:List (List Int)):Option Bool:=denAt Zy.E Zy.fn Zy.enc [1,1,1,1,0,1,0] { fr:=[(1,.lf (.box 0 0)),(3,.lf (.int .i64 x3)),(6,.lf (.int .i64 x6))],ob:=[(0,.box 32 false [.sl (.sl 2 (.int .i64)) b0_0])],nx:=1 }
noncomputable def Zy.l3 (x3:Int) (x6:Int) (x7:Bool) (x8:Int) (b0_0:List (List Int)):Option Bool:=denAt Zy.E Zy.fn Zy.enc [1,1,1,1,0,1,0,0,1,0,0,1,1,0,1,0] { fr:=[(1,.lf (.box 0 0)),(3,.lf (.int .i64 x3)),(6,.lf (.int .i64 x6)),(7,.lf (ZcK x7)),(8,.lf (.int .i64 x8))],ob:=[(0,.box 32 false [.sl (.sl 2 (.int .i64)) b0_0])],nx:=1 }
noncomputable def Zy.l4 (x3:Int) (x6:Int) (x7:Bool) (x8:Int) (x9:Int) (b0_0:List (List Int)):Option Bool:=denAt Zy.E Zy.fn Zy.enc [1,1,1,1,0,1,0,0,1,0,0,1,1,0,1,0,0,1,0,0,1,1,0] { fr:=[(1,.lf (.box 0 0)),(3,.lf (.int .i64 x3)),(6,.lf (.int .i64 x6)),(7,.lf (ZcK x7)),(8,.lf (.int .i64 x8)),(9,.lf (.int .i64 x9))],ob:=[(0,.box 32 false [.sl (.sl 2 (.int .i64)) b0_0])],nx:=1 }
theorem Zy.f_eq (l0_0:List (List Int)):Zy.f l0_0=(Zbg.f (l0_0.length:Int) 1 8).bind λ t14=>if t14=true then(Zy.l0 (l0_0.length:Int) 0 l0_0)else(some false):=by kernel_rfl
theorem Zy.l0_eq (x3:Int) (x4:Int) (b0_0:List (List Int)):Zy.l0 x3 x4 b0_0=if x4 < x3 then(if 0<=x4 then(if x4 < (b0_0.length:Int)then(if((row b0_0 x4).length:Int)=x3 then(Zy.l1 x3 x4 0 b0_0)else(some false))else none)else none)else(Zy.l2 x3 0 b0_0):=(Zm _ _ _ _).trans (by kernel_rfl)
theorem Zy.l1_eq (x3:Int) (x4:Int) (x5:Int) (b0_0:List (List Int)):Zy.l1 x3 x4 x5 b0_0=if x5 < x3 then(if 0<=x4 then(if x4 < (b0_0.length:Int)then(if 0<=x5 then(if x5 < ((row b0_0 x4).length:Int)then((Zbg.f (T b0_0 x4 x5) 0 (wrapI (x3 - 1))).bind λ t44=>if t44=true then(Zy.l1 x3 x4 (wrapI (x5+1)) b0_0)else(some false))else none)else none)else none)else none)else(Zy.l0 x3 (wrapI (x4+1)) b0_0):=(Zm _ _ _ _).trans (by kernel_rfl)
theorem Zy.l2_eq (x3:Int) (x6:Int) (b0_0:List (List Int)):Zy.l2 x3 x6 b0_0=if x6 < x3 then(if 0 < (b0_0.length:Int)then(if 0<=x6 then(if x6 < ((row b0_0 0).length:Int)then(if(T b0_0 0 x6)=x6 then(if 0<=x6 then(if x6 < (b0_0.length:Int)then(if 0 < ((row b0_0 x6).length:Int)then(if(T b0_0 x6 0)=x6 then(Zy.l3 x3 x6 false 0 b0_0)else(some false))else none)else none)else none)else(some false))else none)else none)else none)else(some true):=(Zm _ _ _ _).trans (by kernel_rfl)
theorem Zy.l3_eq (x3:Int) (x6:Int) (x7:Bool) (x8:Int) (b0_0:List (List Int)):Zy.l3 x3 x6 x7 x8 b0_0=if x8 < x3 then(if x7=true then(Zy.l4 x3 x6 true x8 0 b0_0)else(if 0<=x6 then(if x6 < (b0_0.length:Int)then(if 0<=x8 then(if x8 < ((row b0_0 x6).length:Int)then(if(T b0_0 x6 x8)=0 then(if 0<=x8 then(if x8 < (b0_0.length:Int)then(if 0<=x6 then(if x6 < ((row b0_0 x8).length:Int)then(Zy.l4 x3 x6 (decide ((T b0_0 x8 x6)=0)) x8 0 b0_0)else none)else none)else none)else none)else(Zy.l4 x3 x6 false x8 0 b0_0))else none)else none)else none)else none))else(if x7=true then(Zy.l2 x3 (wrapI (x6+1)) b0_0)else(some false)):=(Zm _ _ _ _).trans (by kernel_rfl)
theorem Zy.l4_eq (x3:Int) (x6:Int) (x7:Bool) (x8:Int) (x9:Int) (b0_0:List (List Int)):Zy.l4 x3 x6 x7 x8 x9 b0_0=if x9 < x3 then(if 0<=x6 then(if x6 < (b0_0.length:Int)then(if 0<=x8 then(if x8 < ((row b0_0 x6).length:Int)then(if 0<=T b0_0 x6 x8 then(if T b0_0 x6 x8 < (b0_0.length:Int)then(if 0<=x9 then(if x9 < ((row b0_0 (T b0_0 x6 x8)).length:Int)then(if 0<=x6 then(if x6 < (b0_0.length:Int)then(if 0<=x8 then(if x8 < (b0_0.length:Int)then(if 0<=x9 then(if x9 < ((row b0_0 x8).length:Int)then(if 0<=T b0_0 x8 x9 then(if T b0_0 x8 x9 < ((row b0_0 x6).length:Int)then(if(T b0_0 (T b0_0 x6 x8) x9)=(T b0_0 x6 (T b0_0 x8 x9))then(Zy.l4 x3 x6 x7 x8 (wrapI (x9+1)) b0_0)else(some false))else none)else none)else none)else none)else none)else none)else none)else none)else none)else none)else none)else none)else none)else none)else none)else none)else(Zy.l3 x3 x6 x7 (wrapI (x8+1)) b0_0):=(Zm _ _ _ _).trans (by kernel_rfl)
noncomputable def Zy.con:Con:=⟨Zy.fn.ins,Zy.fn.outs,Bool,λ x=>Zy.f x.1,λ r=>((r,()),(()))⟩
theorem Zy.valid:Valid Tryz.prog 73 Zy.con:=fnV Zy.fn Zy.E Zy.enc ⟨ttOk,(Zo Zbg.valid Zat)⟩ Tryz.func73
noncomputable def Zay.E:Env:={ tt:=TT,con:=[],frz:=[],rows:=[],live:=[(1,[0,1])],n:=17,pin:=0,nils:=[] }
noncomputable def Zay.fn:D.Fn:={ body:=Tryz.f103.body.getD .skip,res:=Tryz.f103.results.toList,ins:=[.one (.v (.int .i64)),.one (.v (.int .i64))],outs:=[.one (.v (.int .i64))] }
def Zay.enc (y:lsd (flats Zay.fn.outs)×lsd (ios Zay.fn.ins)):Int:=y.1.1
noncomputable def Zay.f (a0:Int) (a1:Int):Option Int:=denF Zay.E Zay.fn Zay.enc (a0,a1,())
noncomputable def Zay.l0 (x0:Int) (x1:Int):Option Int:=denAt Zay.E Zay.fn Zay.enc [1,0,0] { fr:=[(0,.lf (.int .i64 x0)),(1,.lf (.int .i64 x1))],ob:=[],nx:=0 }
theorem Zay.f_eq (a0:Int) (a1:Int):Zay.f a0 a1=Zay.l0 a0 a1:=by kernel_rfl
theorem Zay.l0_eq (x0:Int) (x1:Int):Zay.l0 x0 x1=if x1=0 then(some (if(wrapI (0 - x0)) > x0 then(wrapI (0 - x0))else x0))else(if x1=0 then none else(Zay.l0 x1 ((x0:Int).tmod x1))):=(Zm _ _ _ _).trans (by kernel_rfl)
noncomputable def Zay.con:Con:=⟨Zay.fn.ins,Zay.fn.outs,Int,λ x=>Zay.f x.1 x.2.1,λ r=>((r,()),(()))⟩
theorem Zay.valid:Valid Tryz.prog 103 Zay.con:=fnV Zay.fn Zay.E Zay.enc ⟨ttOk,Zat⟩ Tryz.func103
noncomputable def Zae.E:Env:={ tt:=TT,con:=[(75,Zbg.con),(103,Zay.con)],frz:=[],rows:=[],live:=[(4,[2,3,5]),(9,[2,3,6]),(12,[2,3,6,7])],n:=90,pin:=0,nils:=[] }
noncomputable def Zae.fn:D.Fn:={ body:=Tryz.f74.body.getD .skip,res:=Tryz.f74.results.toList,ins:=[.agg [.v (.sl 25 (.sl 2 (.int .i64)))],.agg [.v (.int .i64),.v (.sl 2 (.int .i64))]],outs:=[.one (.v .bool)] }
def Zae.enc (y:lsd (flats Zae.fn.outs)×lsd (ios Zae.fn.ins)):Bool:=y.1.1
noncomputable def Zae.f (l0_0:List (List Int)) (a1_0:Int) (l1_1:List Int):Option Bool:=denF Zae.E Zae.fn Zae.enc (l0_0,a1_0,l1_1,())
noncomputable def Zae.l0 (x5:Int) (b0_0:List (List Int)) (b1_0:Int) (b1_1:List Int):Option Bool:=denAt Zae.E Zae.fn Zae.enc [1,1,0,1,0] { fr:=[(2,.lf (.box 0 0)),(3,.lf (.box 1 0)),(5,.lf (.int .i64 x5))],ob:=[(0,.box 32 false [.sl (.sl 2 (.int .i64)) b0_0]),(1,.box 34 false [.int .i64 b1_0,.sl (.int .i64) b1_1])],nx:=2 }
noncomputable def Zae.l1 (x6:Int) (b0_0:List (List Int)) (b1_0:Int) (b1_1:List Int):Option Bool:=denAt Zae.E Zae.fn Zae.enc [1,1,1,0,1,0] { fr:=[(2,.lf (.box 0 0)),(3,.lf (.box 1 0)),(6,.lf (.int .i64 x6))],ob:=[(0,.box 32 false [.sl (.sl 2 (.int .i64)) b0_0]),(1,.box 34 false [.int .i64 b1_0,.sl (.int .i64) b1_1])],nx:=2 }
noncomputable def Zae.l2 (x6:Int) (x7:Int) (b0_0:List (List Int)) (b1_0:Int) (b1_1:List Int):Option Bool:=denAt Zae.E Zae.fn Zae.enc [1,1,1,0,1,0,0,1,0,0,1,0] { fr:=[(2,.lf (.box 0 0)),(3,.lf (.box 1 0)),(6,.lf (.int .i64 x6)),(7,.lf (.int .i64 x7))],ob:=[(0,.box 32 false [.sl (.sl 2 (.int .i64)) b0_0]),(1,.box 34 false [.int .i64 b1_0,.sl (.int .i64) b1_1])],nx:=2 }
theorem Zae.f_eq (l0_0:List (List Int)) (a1_0:Int) (l1_1:List Int):Zae.f l0_0 a1_0 l1_1=(Zbg.f a1_0 2 12).bind λ t10=>if t10=true then(if(l1_1.length:Int)=(l0_0.length:Int)then(Zae.l0 0 l0_0 a1_0 l1_1)else(some false))else(some false):=by kernel_rfl
theorem Zae.l0_eq (x5:Int) (b0_0:List (List Int)) (b1_0:Int) (b1_1:List Int):Zae.l0 x5 b0_0 b1_0 b1_1=if x5 < (b1_1.length:Int)then(if 0<=x5 then(if x5 < (b1_1.length:Int)then((Zbg.f (rd b1_1 x5) 1 (wrapI (b1_0 - 1))).bind λ t36=>if t36=true then(if 0<=x5 then(if x5 < (b1_1.length:Int)then((Zay.f (rd b1_1 x5) b1_0).bind λ t46=>if t46=1 then(Zae.l0 (wrapI (x5+1)) b0_0 b1_0 b1_1)else(some false))else none)else none)else(some false))else none)else none)else(Zae.l1 0 b0_0 b1_0 b1_1):=(Zm _ _ _ _).trans (by kernel_rfl)
theorem Zae.l1_eq (x6:Int) (b0_0:List (List Int)) (b1_0:Int) (b1_1:List Int):Zae.l1 x6 b0_0 b1_0 b1_1=if x6 < (b1_1.length:Int)then(Zae.l2 x6 0 b0_0 b1_0 b1_1)else(some true):=(Zm _ _ _ _).trans (by kernel_rfl)
theorem Zae.l2_eq (x6:Int) (x7:Int) (b0_0:List (List Int)) (b1_0:Int) (b1_1:List Int):Zae.l2 x6 x7 b0_0 b1_0 b1_1=if x7 < (b1_1.length:Int)then(if 0<=x6 then(if x6 < (b0_0.length:Int)then(if 0<=x7 then(if x7 < ((row b0_0 x6).length:Int)then(if 0<=T b0_0 x6 x7 then(if T b0_0 x6 x7 < (b1_1.length:Int)then(if 0<=x6 then(if x6 < (b1_1.length:Int)then(if 0<=x7 then(if x7 < (b1_1.length:Int)then(if b1_0=0 then none else(if(rd b1_1 (T b0_0 x6 x7))=((wrapI ((rd b1_1 x6)*(rd b1_1 x7)):Int).tmod b1_0)then(Zae.l2 x6 (wrapI (x7+1)) b0_0 b1_0 b1_1)else(some false)))else none)else none)else none)else none)else none)else none)else none)else none)else none)else none)else(Zae.l1 (wrapI (x6+1)) b0_0 b1_0 b1_1):=(Zm _ _ _ _).trans (by kernel_rfl)
noncomputable def Zae.con:Con:=⟨Zae.fn.ins,Zae.fn.outs,Bool,λ x=>Zae.f x.1 x.2.1 x.2.2.1,λ r=>((r,()),(()))⟩
theorem Zae.valid:Valid Tryz.prog 74 Zae.con:=fnV Zae.fn Zae.E Zae.enc ⟨ttOk,(Zo Zbg.valid (Zo Zay.valid Zat))⟩ Tryz.func74
noncomputable def Zal.E:Env:={ tt:=TT,con:=[],frz:=[],rows:=[],live:=[],n:=6,pin:=0,nils:=[] }
noncomputable def Zal.fn:D.Fn:={ body:=Tryz.f104.body.getD .skip,res:=Tryz.f104.results.toList,ins:=[.agg [.v (.sl 25 (.sl 2 (.int .i64)))]],outs:=[.one (.v (.int .i64))] }
def Zal.enc (y:lsd (flats Zal.fn.outs)×lsd (ios Zal.fn.ins)):Int:=y.1.1
noncomputable def Zal.f (l0_0:List (List Int)):Option Int:=denF Zal.E Zal.fn Zal.enc (l0_0,())
theorem Zal.f_eq (l0_0:List (List Int)):Zal.f l0_0=some (l0_0.length:Int):=by kernel_rfl
noncomputable def Zal.con:Con:=⟨Zal.fn.ins,Zal.fn.outs,Int,λ x=>Zal.f x.1,λ r=>((r,()),(()))⟩
theorem Zal.valid:Valid Tryz.prog 104 Zal.con:=fnV Zal.fn Zal.E Zal.enc ⟨ttOk,Zat⟩ Tryz.func104
noncomputable def ZP.E:Env:={ tt:=TT,con:=[(104,Zal.con)],frz:=[],rows:=[],live:=[(2,[1,2,5])],n:=16,pin:=0,nils:=[] }
noncomputable def ZP.fn:D.Fn:={ body:=Tryz.f76.body.getD .skip,res:=Tryz.f76.results.toList,ins:=[.agg [.v (.sl 25 (.sl 2 (.int .i64)))],.one (.v (.int .i64))],outs:=[.one (.v (.int .i64))] }
def ZP.enc (y:lsd (flats ZP.fn.outs)×lsd (ios ZP.fn.ins)):Int:=y.1.1
noncomputable def ZP.f (l0_0:List (List Int)) (a1:Int):Option Int:=denF ZP.E ZP.fn ZP.enc (l0_0,a1,())
noncomputable def ZP.l0 (x1:Int) (x5:Int) (b0_0:List (List Int)):Option Int:=denAt ZP.E ZP.fn ZP.enc [1,1,0,0] { fr:=[(1,.lf (.int .i64 x1)),(2,.lf (.box 0 0)),(5,.lf (.int .i64 x5))],ob:=[(0,.box 32 false [.sl (.sl 2 (.int .i64)) b0_0])],nx:=1 }
theorem ZP.f_eq (l0_0:List (List Int)) (a1:Int):ZP.f l0_0 a1=ZP.l0 a1 1 l0_0:=by kernel_rfl
theorem ZP.l0_eq (x1:Int) (x5:Int) (b0_0:List (List Int)):ZP.l0 x1 x5 b0_0=if x1 > 0 then((Zal.f b0_0).bind λ t12=>ZP.l0 (wrapI (x1 - 1)) (wrapI (x5*(wrapI (t12 - 1)))) b0_0)else(some x5):=(Zm _ _ _ _).trans (by kernel_rfl)
noncomputable def ZP.con:Con:=⟨ZP.fn.ins,ZP.fn.outs,Int,λ x=>ZP.f x.1 x.2.1,λ r=>((r,()),(()))⟩
theorem ZP.valid:Valid Tryz.prog 76 ZP.con:=fnV ZP.fn ZP.E ZP.enc ⟨ttOk,(Zo Zal.valid Zat)⟩ Tryz.func76
noncomputable def ZaR.E:Env:={ tt:=TT,con:=[(73,Zy.con),(74,Zae.con),(75,Zbg.con),(76,ZP.con)],frz:=[],rows:=[],live:=[],n:=26,pin:=0,nils:=[] }
noncomputable def ZaR.fn:D.Fn:={ body:=Tryz.f41.body.getD .skip,res:=Tryz.f41.results.toList,ins:=[.agg [.v (.sl 25 (.sl 2 (.int .i64)))],.agg [.v (.int .i64),.v (.sl 2 (.int .i64))],.one (.v (.int .i64))],outs:=[.one (.v (.int .i64))] }
def ZaR.enc (y:lsd (flats ZaR.fn.outs)×lsd (ios ZaR.fn.ins)):Int:=y.1.1
noncomputable def ZaR.f (l0_0:List (List Int)) (a1_0:Int) (l1_1:List Int) (a2:Int):Option Int:=denF ZaR.E ZaR.fn ZaR.enc (l0_0,a1_0,l1_1,a2,())
theorem ZaR.f_eq (l0_0:List (List Int)) (a1_0:Int) (l1_1:List Int) (a2:Int):ZaR.f l0_0 a1_0 l1_1 a2=(Zy.f l0_0).bind λ t9=>if t9=true then((Zae.f l0_0 a1_0 l1_1).bind λ t14=>if t14=true then((Zbg.f a2 0 3).bind λ t19=>if t19=true then((ZP.f l0_0 a2).bind λ t24=>if t24 > 49 then(some 3)else(some 0))else(some 2))else(some 1))else(some 1):=by kernel_rfl
noncomputable def ZaR.con:Con:=⟨ZaR.fn.ins,ZaR.fn.outs,Int,λ x=>ZaR.f x.1 x.2.1 x.2.2.1 x.2.2.2.1,λ r=>((r,()),(()))⟩
theorem ZaR.valid:Valid Tryz.prog 41 ZaR.con:=fnV ZaR.fn ZaR.E ZaR.enc ⟨ttOk,(Zo Zy.valid (Zo Zae.valid (Zo Zbg.valid (Zo ZP.valid Zat))))⟩ Tryz.func41
noncomputable def ZaT.E:Env:={ tt:=TT,con:=[],frz:=[],rows:=[],live:=[],n:=12,pin:=0,nils:=[] }
noncomputable def ZaT.fn:D.Fn:={ body:=Tryz.f100.body.getD .skip,res:=Tryz.f100.results.toList,ins:=[.one (.v (.int .i64)),.one (.v (.int .i64))],outs:=[.one (.v (.int .i64))] }
def ZaT.enc (y:lsd (flats ZaT.fn.outs)×lsd (ios ZaT.fn.ins)):Int:=y.1.1
noncomputable def ZaT.f (a0:Int) (a1:Int):Option Int:=denF ZaT.E ZaT.fn ZaT.enc (a0,a1,())
theorem ZaT.f_eq (a0:Int) (a1:Int):ZaT.f a0 a1=if a1=0 then none else(if a1=0 then none else(some ((wrapI (((a0:Int).tmod a1)+a1):Int).tmod a1))):=by kernel_rfl
noncomputable def ZaT.con:Con:=⟨ZaT.fn.ins,ZaT.fn.outs,Int,λ x=>ZaT.f x.1 x.2.1,λ r=>((r,()),(()))⟩
theorem ZaT.valid:Valid Tryz.prog 100 ZaT.con:=fnV ZaT.fn ZaT.E ZaT.enc ⟨ttOk,Zat⟩ Tryz.func100
noncomputable def ZU.E:Env:={ tt:=TT,con:=[(100,ZaT.con)],frz:=[],rows:=[],live:=[(3,[0,1,2,3,4,11,12])],n:=41,pin:=0,nils:=[] }
noncomputable def ZU.fn:D.Fn:={ body:=Tryz.f65.body.getD .skip,res:=Tryz.f65.results.toList,ins:=[.one (.v (.sl 2 (.int .i64))),.one (.v (.sl 2 (.int .i64))),.one (.v (.int .i64)),.one (.v (.int .i64)),.one (.v (.int .i64))],outs:=[.one (.own 2 true (.int .i64))] }
def ZU.enc (y:lsd (flats ZU.fn.outs)×lsd (ios ZU.fn.ins)):(List Int):=y.1.1
noncomputable def ZU.f (l0:List Int) (l1:List Int) (a2:Int) (a3:Int) (a4:Int):Option (List Int):=denF ZU.E ZU.fn ZU.enc (l0,l1,a2,a3,a4,())
noncomputable def ZU.l0 (x0:List Int) (x1:List Int) (x2:Int) (x3:Int) (x4:Int) (x12:Int) (r0:List Int):Option (List Int):=denAt ZU.E ZU.fn ZU.enc [1,1,0,1,0] { fr:=[(0,.lf (.sl (.int .i64) x0)),(1,.lf (.sl (.int .i64) x1)),(2,.lf (.int .i64 x2)),(3,.lf (.int .i64 x3)),(4,.lf (.int .i64 x4)),(11,.lf (.own 0)),(12,.lf (.int .i64 x12))],ob:=[(0,.row 2 true (.int .i64) r0)],nx:=1 }
theorem ZU.f_eq (l0:List Int) (l1:List Int) (a2:Int) (a3:Int) (a4:Int):ZU.f l0 l1 a2 a3 a4=if(l0.length:Int)=(l0.length:Int)then(if 0<=(l0.length:Int)then(if((l0.length:Int):Int).toNat<=17592186044416 then(ZU.l0 l0 l1 a2 a3 a4 0 (List.replicate ((l0.length:Int):Int).toNat (0:Int)))else none)else none)else none:=by kernel_rfl
theorem ZU.l0_eq (x0:List Int) (x1:List Int) (x2:Int) (x3:Int) (x4:Int) (x12:Int) (r0:List Int):ZU.l0 x0 x1 x2 x3 x4 x12 r0=if x12 < (x0.length:Int)then(if 0<=x12 then(if x12 < (x0.length:Int)then(if 0<=x12 then(if x12 < (x1.length:Int)then((ZaT.f (wrapI ((wrapI (x2*(rd x0 x12)))+(wrapI (x3*(rd x1 x12))))) x4).bind λ t38=>if 0<=x12 then(if x12 < (r0.length:Int)then(if 0<=x12 then(if x12 < (r0.length:Int)then(ZU.l0 x0 x1 x2 x3 x4 (wrapI (x12+1)) (r0.set (x12:Int).toNat t38))else none)else none)else none)else none)else none)else none)else none)else none)else(some r0):=(Zm _ _ _ _).trans (by kernel_rfl)
noncomputable def ZU.con:Con:=⟨ZU.fn.ins,ZU.fn.outs,(List Int),λ x=>ZU.f x.1 x.2.1 x.2.2.1 x.2.2.2.1 x.2.2.2.2.1,λ r=>((r,()),(()))⟩
theorem ZU.valid:Valid Tryz.prog 65 ZU.con:=fnV ZU.fn ZU.E ZU.enc ⟨ttOk,(Zo ZaT.valid Zat)⟩ Tryz.func65
noncomputable def Zao.E:Env:={ tt:=TT,con:=[(103,Zay.con),(65,ZU.con)],frz:=[],rows:=[],live:=[(4,[0,1,2,7,8])],n:=40,pin:=0,nils:=[] }
noncomputable def Zao.fn:D.Fn:={ body:=Tryz.f135.body.getD .skip,res:=Tryz.f135.results.toList,ins:=[.one (.v (.sl 2 (.int .i64))),.one (.v (.int .i64)),.one (.v (.int .i64))],outs:=[.one (.own 2 true (.int .i64))] }
def Zao.enc (y:lsd (flats Zao.fn.outs)×lsd (ios Zao.fn.ins)):(List Int):=y.1.1
noncomputable def Zao.f (l0:List Int) (a1:Int) (a2:Int):Option (List Int):=denF Zao.E Zao.fn Zao.enc (l0,a1,a2,())
noncomputable def Zao.l0 (x0:List Int) (x1:Int) (x2:Int) (x7:Int) (x8:Int):Option (List Int):=denAt Zao.E Zao.fn Zao.enc [1,1,1,0] { fr:=[(0,.lf (.sl (.int .i64) x0)),(1,.lf (.int .i64 x1)),(2,.lf (.int .i64 x2)),(7,.lf (.int .i64 x7)),(8,.lf (.int .i64 x8))],ob:=[],nx:=0 }
theorem Zao.f_eq (l0:List Int) (a1:Int) (a2:Int):Zao.f l0 a1 a2=if 0<=a1 then(if a1 < (l0.length:Int)then((Zay.f (rd l0 a1) a2).bind λ t14=>Zao.l0 l0 a1 a2 t14 1)else none)else none:=by kernel_rfl
theorem Zao.l0_eq (x0:List Int) (x1:Int) (x2:Int) (x7:Int) (x8:Int):Zao.l0 x0 x1 x2 x7 x8=(Zay.f x8 x2).bind λ t19=>if t19=1 then(if 0<=x1 then(if x1 < (x0.length:Int)then(if x2=0 then none else(if x2=0 then none else(if((wrapI ((rd x0 x1)*x8):Int).tmod x2)=((x7:Int).tmod x2)then((ZU.f x0 x0 x8 0 x2).bind λ t39=>some t39)else(Zao.l0 x0 x1 x2 x7 (wrapI (x8+1))))))else none)else none)else(Zao.l0 x0 x1 x2 x7 (wrapI (x8+1))):=(Zm _ _ _ _).trans (by kernel_rfl)
noncomputable def Zao.con:Con:=⟨Zao.fn.ins,Zao.fn.outs,(List Int),λ x=>Zao.f x.1 x.2.1 x.2.2.1,λ r=>((r,()),(()))⟩
theorem Zao.valid:Valid Tryz.prog 135 Zao.con:=fnV Zao.fn Zao.E Zao.enc ⟨ttOk,(Zo Zay.valid (Zo ZU.valid Zat))⟩ Tryz.func135
noncomputable def Z5.E:Env:={ tt:=TT,con:=[],frz:=[],rows:=[],live:=[(2,[0,1,7,8,9,10])],n:=43,pin:=0,nils:=[] }
noncomputable def Z5.fn:D.Fn:={ body:=Tryz.f136.body.getD .skip,res:=Tryz.f136.results.toList,ins:=[.one (.v (.int .i64)),.one (.v (.int .i64))],outs:=[.one (.v (.int .i64)),.one (.v (.int .i64)),.one (.v (.int .i64))] }
def Z5.enc (y:lsd (flats Z5.fn.outs)×lsd (ios Z5.fn.ins)):Int×Int×Int:=(y.1.1,y.1.2.1,y.1.2.2.1)
noncomputable def Z5.f (a0:Int) (a1:Int):Option (Int×Int×Int):=denF Z5.E Z5.fn Z5.enc (a0,a1,())
noncomputable def Z5.l0 (x0:Int) (x1:Int) (x7:Int) (x8:Int) (x9:Int) (x10:Int):Option (Int×Int×Int):=denAt Z5.E Z5.fn Z5.enc [1,1,0,0] { fr:=[(0,.lf (.int .i64 x0)),(1,.lf (.int .i64 x1)),(7,.lf (.int .i64 x7)),(8,.lf (.int .i64 x8)),(9,.lf (.int .i64 x9)),(10,.lf (.int .i64 x10))],ob:=[],nx:=0 }
theorem Z5.f_eq (a0:Int) (a1:Int):Z5.f a0 a1=Z5.l0 a0 a1 1 0 0 1:=by kernel_rfl
theorem Z5.l0_eq (x0:Int) (x1:Int) (x7:Int) (x8:Int) (x9:Int) (x10:Int):Z5.l0 x0 x1 x7 x8 x9 x10=if x1=0 then(some (x0,x7,x8))else(if x1=0 then none else(Z5.l0 x1 (wrapI (x0 - (wrapI ((wrapI ((x0:Int).tdiv x1))*x1)))) x9 x10 (wrapI (x7 - (wrapI ((wrapI ((x0:Int).tdiv x1))*x9)))) (wrapI (x8 - (wrapI ((wrapI ((x0:Int).tdiv x1))*x10)))))):=(Zm _ _ _ _).trans (by kernel_rfl)
noncomputable def Z5.con:Con:=⟨Z5.fn.ins,Z5.fn.outs,Int×Int×Int,λ x=>Z5.f x.1 x.2.1,λ r=>((r.1,r.2.1,r.2.2,()),(()))⟩
theorem Z5.valid:Valid Tryz.prog 136 Z5.con:=fnV Z5.fn Z5.E Z5.enc ⟨ttOk,Zat⟩ Tryz.func136
noncomputable def ZE.E:Env:={ tt:=TT,con:=[(135,Zao.con),(65,ZU.con),(136,Z5.con)],frz:=[53,71,99,120,131,143],rows:=[16,72,144],live:=[(1,[0,2,6]),(5,[0,2,6,7,8])],n:=147,pin:=1,nils:=[] }
noncomputable def ZE.fn:D.Fn:={ body:=Tryz.f105.body.getD .skip,res:=Tryz.f105.results.toList,ins:=[.one (.own 25 false (.sl 2 (.int .i64))),.one (.v (.sl 2 (.int .i64))),.one (.v (.int .i64))],outs:=[] }
def ZE.enc (y:lsd (flats ZE.fn.outs)×lsd (ios ZE.fn.ins)):(List (List Int)):=y.2.1
noncomputable def ZE.f (l0:List (List Int)) (l1:List Int) (a2:Int):Option (List (List Int)):=denF ZE.E ZE.fn ZE.enc (l0,l1,a2,())
noncomputable def ZE.l0 (x2:Int) (r0:List (List Int)) (r1:List (List Int)):Option (List (List Int)):=denAt ZE.E ZE.fn ZE.enc [1,0] { fr:=[(0,.lf (.own 0)),(2,.lf (.int .i64 x2)),(6,.lf (.own 1))],ob:=[(0,.row 25 false (.sl 2 (.int .i64)) r0),(1,.row 25 false (.sl 2 (.int .i64)) r1)],nx:=2 }
noncomputable def ZE.l1 (x2:Int) (x7:List Int) (x8:Int) (r0:List (List Int)) (r1:List (List Int)):Option (List (List Int)):=denAt ZE.E ZE.fn ZE.enc [1,0,0,1,0,1,1,1,0] { fr:=[(0,.lf (.own 0)),(2,.lf (.int .i64 x2)),(6,.lf (.own 1)),(7,.lf (.sl (.int .i64) x7)),(8,.lf (.int .i64 x8))],ob:=[(0,.row 25 false (.sl 2 (.int .i64)) r0),(1,.row 25 false (.sl 2 (.int .i64)) r1)],nx:=2 }
theorem ZE.f_eq (l0:List (List Int)) (l1:List Int) (a2:Int):ZE.f l0 l1 a2=ZE.l0 a2 l0 ([l1]:List (List Int)):=by kernel_rfl
theorem ZE.l0_eq (x2:Int) (r0:List (List Int)) (r1:List (List Int)):ZE.l0 x2 r0 r1=if(r1.length:Int) > 0 then(if 0<=wrapI ((r1.length:Int) - 1)then(if wrapI ((r1.length:Int) - 1) < (r1.length:Int)then(if 0<=wrapI ((r1.length:Int) - 1)then(if wrapI ((r1.length:Int) - 1) < (r1.length:Int)then(if 0 < (r1.length:Int)then(if 0<=wrapI ((r1.length:Int) - 1)then(if wrapI ((r1.length:Int) - 1)<=(r1.length:Int)then(ZE.l1 x2 (row r1 (wrapI ((r1.length:Int) - 1))) 0 r0 (r1.take (wrapI ((r1.length:Int) - 1):Int).toNat))else none)else none)else none)else none)else none)else none)else none)else(some r0):=(Zm _ _ _ _).trans (by kernel_rfl)
theorem ZE.l1_eq (x2:Int) (x7:List Int) (x8:Int) (r0:List (List Int)) (r1:List (List Int)):ZE.l1 x2 x7 x8 r0 r1=if x8 < (x7.length:Int)then(if 0<=x8 then(if x8 < (x7.length:Int)then(if(rd x7 x8)=0 then(ZE.l1 x2 x7 (wrapI (x8+1)) r0 r1)else(if 0<=x8 then(if x8 < (r0.length:Int)then(if 0<=x8 then(if x8 < (r0.length:Int)then(if((row r0 x8).length:Int)=0 then((Zao.f x7 x8 x2).bind λ t53=>if 0<=x8 then(if x8 < (r0.length:Int)then(if 0<=x8 then(if x8 < (r0.length:Int)then(if 0<=x8 then(if x8 < ((r0.set (x8:Int).toNat t53).length:Int)then(if 0<=x8 then(if x8 < ((r0.set (x8:Int).toNat t53).length:Int)then(if 0<=x8 then(if x8 < ((r0.set (x8:Int).toNat t53).length:Int)then(if 0<=x8 then(if x8 < ((r0.set (x8:Int).toNat t53).length:Int)then(if 0<=x8 then(if x8 < ((row (r0.set (x8:Int).toNat t53) x8).length:Int)then(if(T (r0.set (x8:Int).toNat t53) x8 x8)=0 then none else((ZU.f (row (r0.set (x8:Int).toNat t53) x8) x7 (wrapI ((x2:Int).tdiv (T (r0.set (x8:Int).toNat t53) x8 x8))) 0 x2).bind λ t71=>if r1.length+([t71]:List (List Int)).length<=5864062014805 then(ZE.l0 x2 (r0.set (x8:Int).toNat t53) (r1++([t71]:List (List Int))))else none))else none)else none)else none)else none)else none)else none)else none)else none)else none)else none)else none)else none)else none)else none)else(if 0<=x8 then(if x8 < (r0.length:Int)then(if 0<=x8 then(if x8 < (r0.length:Int)then(if 0<=x8 then(if x8 < ((row r0 x8).length:Int)then(if 0<=x8 then(if x8 < (x7.length:Int)then(if(T r0 x8 x8)=0 then none else(if((rd x7 x8:Int).tmod (T r0 x8 x8))=0 then(if 0<=x8 then(if x8 < (r0.length:Int)then(if 0<=x8 then(if x8 < (r0.length:Int)then(if(T r0 x8 x8)=0 then none else((ZU.f x7 (row r0 x8) 1 (wrapI (0 - (wrapI ((rd x7 x8:Int).tdiv (T r0 x8 x8))))) x2).bind λ t99=>ZE.l1 x2 t99 (wrapI (x8+1)) r0 r1))else none)else none)else none)else none)else((Z5.f (T r0 x8 x8) (rd x7 x8)).bind λ t103=>if 0<=x8 then(if x8 < (r0.length:Int)then(if 0<=x8 then(if x8 < (r0.length:Int)then(if t103.1=0 then none else(if t103.1=0 then none else((ZU.f (row r0 x8) x7 (wrapI ((rd x7 x8:Int).tdiv t103.1)) (wrapI (0 - (wrapI ((T r0 x8 x8:Int).tdiv t103.1)))) x2).bind λ t120=>if 0<=x8 then(if x8 < (r0.length:Int)then(if 0<=x8 then(if x8 < (r0.length:Int)then((ZU.f (row r0 x8) x7 t103.2.1 t103.2.2 x2).bind λ t131=>if 0<=x8 then(if x8 < (r0.length:Int)then(if 0<=x8 then(if x8 < (r0.length:Int)then(if 0<=x8 then(if x8 < ((r0.set (x8:Int).toNat t131).length:Int)then(if 0<=x8 then(if x8 < ((r0.set (x8:Int).toNat t131).length:Int)then(if t103.1=0 then none else((ZU.f (row (r0.set (x8:Int).toNat t131) x8) x7 (wrapI ((x2:Int).tdiv t103.1)) 0 x2).bind λ t143=>if r1.length+([t143]:List (List Int)).length<=5864062014805 then(ZE.l1 x2 t120 (wrapI (x8+1)) (r0.set (x8:Int).toNat t131) (r1++([t143]:List (List Int))))else none))else none)else none)else none)else none)else none)else none)else none)else none)else none)else none)else none)else none)))else none)else none)else none)else none)))else none)else none)else none)else none)else none)else none)else none)else none))else none)else none)else none)else none))else none)else none)else(ZE.l0 x2 r0 r1):=(Zm _ _ _ _).trans (by kernel_rfl)
noncomputable def ZE.con:Con:=⟨ZE.fn.ins,ZE.fn.outs,(List (List Int)),λ x=>ZE.f x.1 x.2.1 x.2.2.1,λ r=>((()),(r,()))⟩
theorem ZE.valid:Valid Tryz.prog 105 ZE.con:=fnV ZE.fn ZE.E ZE.enc ⟨ttOk,(Zo Zao.valid (Zo ZU.valid (Zo Z5.valid Zat)))⟩ Tryz.func105
noncomputable def Z4.E:Env:={ tt:=TT,con:=[(105,ZE.con)],frz:=[],rows:=[10],live:=[(3,[0,2,7,8])],n:=25,pin:=0,nils:=[] }
noncomputable def Z4.fn:D.Fn:={ body:=Tryz.f77.body.getD .skip,res:=Tryz.f77.results.toList,ins:=[.one (.v (.sl 25 (.sl 2 (.int .i64)))),.one (.v (.int .i64)),.one (.v (.int .i64))],outs:=[.one (.own 25 false (.sl 2 (.int .i64)))] }
def Z4.enc (y:lsd (flats Z4.fn.outs)×lsd (ios Z4.fn.ins)):(List (List Int)):=y.1.1
noncomputable def Z4.f (l0:List (List Int)) (a1:Int) (a2:Int):Option (List (List Int)):=denF Z4.E Z4.fn Z4.enc (l0,a1,a2,())
noncomputable def Z4.l0 (x0:List (List Int)) (x2:Int) (x8:Int) (r0:List (List Int)):Option (List (List Int)):=denAt Z4.E Z4.fn Z4.enc [1,1,0,1,0] { fr:=[(0,.lf (.sl (.sl 2 (.int .i64)) x0)),(2,.lf (.int .i64 x2)),(7,.lf (.own 0)),(8,.lf (.int .i64 x8))],ob:=[(0,.row 25 false (.sl 2 (.int .i64)) r0)],nx:=1 }
theorem Z4.f_eq (l0:List (List Int)) (a1:Int) (a2:Int):Z4.f l0 a1 a2=if a1=a1 then(if 0<=a1 then(if(a1:Int).toNat<=5864062014805 then(Z4.l0 l0 a2 0 (List.replicate (a1:Int).toNat ([]:List Int)))else none)else none)else none:=by kernel_rfl
theorem Z4.l0_eq (x0:List (List Int)) (x2:Int) (x8:Int) (r0:List (List Int)):Z4.l0 x0 x2 x8 r0=if x8 < (x0.length:Int)then(if 0<=x8 then(if x8 < (x0.length:Int)then((ZE.f r0 (row x0 x8) x2).bind λ t23=>Z4.l0 x0 x2 (wrapI (x8+1)) t23)else none)else none)else(some r0):=(Zm _ _ _ _).trans (by kernel_rfl)
noncomputable def Z4.con:Con:=⟨Z4.fn.ins,Z4.fn.outs,(List (List Int)),λ x=>Z4.f x.1 x.2.1 x.2.2.1,λ r=>((r,()),(()))⟩
theorem Z4.valid:Valid Tryz.prog 77 Z4.con:=fnV Z4.fn Z4.E Z4.enc ⟨ttOk,(Zo ZE.valid Zat)⟩ Tryz.func77
noncomputable def Zbh.E:Env:={ tt:=TT,con:=[(76,ZP.con)],frz:=[],rows:=[],live:=[],n:=11,pin:=0,nils:=[] }
noncomputable def Zbh.fn:D.Fn:={ body:=Tryz.f66.body.getD .skip,res:=Tryz.f66.results.toList,ins:=[.agg [.v (.sl 25 (.sl 2 (.int .i64)))],.one (.v (.int .i64))],outs:=[.agg [.v (.int .i64),.own 2 true (.int .i64)]] }
def Zbh.enc (y:lsd (flats Zbh.fn.outs)×lsd (ios Zbh.fn.ins)):Int×(List Int):=(y.1.1,y.1.2.1)
noncomputable def Zbh.f (l0_0:List (List Int)) (a1:Int):Option (Int×(List Int)):=denF Zbh.E Zbh.fn Zbh.enc (l0_0,a1,())
theorem Zbh.f_eq (l0_0:List (List Int)) (a1:Int):Zbh.f l0_0 a1=(ZP.f l0_0 a1).bind λ t8=>if t8=t8 then(if 0<=t8 then(if(t8:Int).toNat<=17592186044416 then(some (a1,List.replicate (t8:Int).toNat (0:Int)))else none)else none)else none:=by kernel_rfl
noncomputable def Zbh.con:Con:=⟨Zbh.fn.ins,Zbh.fn.outs,Int×(List Int),λ x=>Zbh.f x.1 x.2.1,λ r=>((r.1,r.2,()),(()))⟩
theorem Zbh.valid:Valid Tryz.prog 66 Zbh.con:=fnV Zbh.fn Zbh.E Zbh.enc ⟨ttOk,(Zo ZP.valid Zat)⟩ Tryz.func66
noncomputable def Zad.E:Env:={ tt:=TT,con:=[],frz:=[],rows:=[],live:=[],n:=6,pin:=0,nils:=[] }
noncomputable def Zad.fn:D.Fn:={ body:=Tryz.f64.body.getD .skip,res:=Tryz.f64.results.toList,ins:=[.one (.v (.sl 2 (.int .i64)))],outs:=[.one (.own 2 true (.int .i64))] }
def Zad.enc (y:lsd (flats Zad.fn.outs)×lsd (ios Zad.fn.ins)):(List Int):=y.1.1
noncomputable def Zad.f (l0:List Int):Option (List Int):=denF Zad.E Zad.fn Zad.enc (l0,())
theorem Zad.f_eq (l0:List Int):Zad.f l0=if([]:List Int).length+l0.length<=17592186044416 then(some (([]:List Int)++l0))else none:=by kernel_rfl
noncomputable def Zad.con:Con:=⟨Zad.fn.ins,Zad.fn.outs,(List Int),λ x=>Zad.f x.1,λ r=>((r,()),(()))⟩
theorem Zad.valid:Valid Tryz.prog 64 Zad.con:=fnV Zad.fn Zad.E Zad.enc ⟨ttOk,Zat⟩ Tryz.func64
noncomputable def ZaU.E:Env:={ tt:=TT,con:=[(104,Zal.con)],frz:=[],rows:=[],live:=[(3,[2,3,4,7,8])],n:=36,pin:=0,nils:=[] }
noncomputable def ZaU.fn:D.Fn:={ body:=Tryz.f158.body.getD .skip,res:=Tryz.f158.results.toList,ins:=[.agg [.v (.sl 25 (.sl 2 (.int .i64)))],.agg [.v (.int .i64),.v (.sl 2 (.int .i64))],.one (.v (.sl 2 (.int .i64)))],outs:=[.one (.v (.int .i64))] }
def ZaU.enc (y:lsd (flats ZaU.fn.outs)×lsd (ios ZaU.fn.ins)):Int:=y.1.1
noncomputable def ZaU.f (l0_0:List (List Int)) (a1_0:Int) (l1_1:List Int) (l2:List Int):Option Int:=denF ZaU.E ZaU.fn ZaU.enc (l0_0,a1_0,l1_1,l2,())
noncomputable def ZaU.l0 (x2:List Int) (x7:Int) (x8:Int) (b0_0:List (List Int)) (b1_0:Int) (b1_1:List Int):Option Int:=denAt ZaU.E ZaU.fn ZaU.enc [1,1,0,1,0] { fr:=[(2,.lf (.sl (.int .i64) x2)),(3,.lf (.box 0 0)),(4,.lf (.box 1 0)),(7,.lf (.int .i64 x7)),(8,.lf (.int .i64 x8))],ob:=[(0,.box 32 false [.sl (.sl 2 (.int .i64)) b0_0]),(1,.box 51 false [.int .i64 b1_0,.sl (.int .i64) b1_1])],nx:=2 }
theorem ZaU.f_eq (l0_0:List (List Int)) (a1_0:Int) (l1_1:List Int) (l2:List Int):ZaU.f l0_0 a1_0 l1_1 l2=ZaU.l0 l2 0 0 l0_0 a1_0 l1_1:=by kernel_rfl
theorem ZaU.l0_eq (x2:List Int) (x7:Int) (x8:Int) (b0_0:List (List Int)) (b1_0:Int) (b1_1:List Int):ZaU.l0 x2 x7 x8 b0_0 b1_0 b1_1=if x8 < (x2.length:Int)then(if 0<=x8 then(if x8 < (x2.length:Int)then(if(rd x2 x8)=0 then(some 0)else((Zal.f b0_0).bind λ t22=>if 0<=x8 then(if x8 < (x2.length:Int)then(ZaU.l0 x2 (wrapI ((wrapI ((wrapI (x7*(wrapI (t22 - 1))))+(rd x2 x8))) - 1)) (wrapI (x8+1)) b0_0 b1_0 b1_1)else none)else none))else none)else none)else(if 0<=x7 then(if x7 < (b1_1.length:Int)then(some (rd b1_1 x7))else none)else none):=(Zm _ _ _ _).trans (by kernel_rfl)
noncomputable def ZaU.con:Con:=⟨ZaU.fn.ins,ZaU.fn.outs,Int,λ x=>ZaU.f x.1 x.2.1 x.2.2.1 x.2.2.2.1,λ r=>((r,()),(()))⟩
theorem ZaU.valid:Valid Tryz.prog 158 ZaU.con:=fnV ZaU.fn ZaU.E ZaU.enc ⟨ttOk,(Zo Zal.valid Zat)⟩ Tryz.func158
noncomputable def ZaM.E:Env:={ tt:=TT,con:=[(158,ZaU.con),(64,Zad.con),(100,ZaT.con)],frz:=[],rows:=[],live:=[(4,[3,4,5,6,9,10,11,12])],n:=85,pin:=0,nils:=[] }
noncomputable def ZaM.fn:D.Fn:={ body:=Tryz.f133.body.getD .skip,res:=Tryz.f133.results.toList,ins:=[.agg [.v (.sl 25 (.sl 2 (.int .i64)))],.agg [.v (.int .i64),.v (.sl 2 (.int .i64))],.agg [.v (.int .i64),.v (.sl 2 (.int .i64))],.one (.v (.sl 2 (.int .i64)))],outs:=[.one (.v (.int .i64))] }
def ZaM.enc (y:lsd (flats ZaM.fn.outs)×lsd (ios ZaM.fn.ins)):Int:=y.1.1
noncomputable def ZaM.f (l0_0:List (List Int)) (a1_0:Int) (l1_1:List Int) (a2_0:Int) (l2_1:List Int) (l3:List Int):Option Int:=denF ZaM.E ZaM.fn ZaM.enc (l0_0,a1_0,l1_1,a2_0,l2_1,l3,())
noncomputable def ZaM.l0 (x3:List Int) (x9:Int) (x10:Int) (x11:Int) (x12:Int) (b0_0:List (List Int)) (b1_0:Int) (b1_1:List Int) (b2_0:Int) (b2_1:List Int):Option Int:=denAt ZaM.E ZaM.fn ZaM.enc [1,1,1,0,1,0] { fr:=[(3,.lf (.sl (.int .i64) x3)),(4,.lf (.box 0 0)),(5,.lf (.box 1 0)),(6,.lf (.box 2 0)),(9,.lf (.int .i64 x9)),(10,.lf (.int .i64 x10)),(11,.lf (.int .i64 x11)),(12,.lf (.int .i64 x12))],ob:=[(0,.box 32 false [.sl (.sl 2 (.int .i64)) b0_0]),(1,.box 34 false [.int .i64 b1_0,.sl (.int .i64) b1_1]),(2,.box 51 false [.int .i64 b2_0,.sl (.int .i64) b2_1])],nx:=3 }
theorem ZaM.f_eq (l0_0:List (List Int)) (a1_0:Int) (l1_1:List Int) (a2_0:Int) (l2_1:List Int) (l3:List Int):ZaM.f l0_0 a1_0 l1_1 a2_0 l2_1 l3=if 0 < (l3.length:Int)then(if 0<=rd l3 0 then(if rd l3 0 < (l1_1.length:Int)then(if 1<=(l3.length:Int)then((ZaU.f l0_0 a2_0 l2_1 (l3.drop (1:Int).toNat)).bind λ t28=>ZaM.l0 l3 (wrapI ((l3.length:Int) - 1)) (wrapI ((rd l1_1 (rd l3 0))*t28)) (-1) 0 l0_0 a1_0 l1_1 a2_0 l2_1)else none)else none)else none)else none:=by kernel_rfl
theorem ZaM.l0_eq (x3:List Int) (x9:Int) (x10:Int) (x11:Int) (x12:Int) (b0_0:List (List Int)) (b1_0:Int) (b1_1:List Int) (b2_0:Int) (b2_1:List Int):ZaM.l0 x3 x9 x10 x11 x12 b0_0 b1_0 b1_1 b2_0 b2_1=if x12 < x9 then(if 0<=x12 then(if x12<=(x3.length:Int)then((Zad.f (x3.take (x12:Int).toNat)).bind λ t38=>if 0<=x12 then(if x12 < (x3.length:Int)then(if 0<=rd x3 x12 then(if rd x3 x12 < (b0_0.length:Int)then(if 0<=wrapI (x12+1)then(if wrapI (x12+1) < (x3.length:Int)then(if 0<=rd x3 (wrapI (x12+1))then(if rd x3 (wrapI (x12+1)) < ((row b0_0 (rd x3 x12)).length:Int)then(if t38.length+([T b0_0 (rd x3 x12) (rd x3 (wrapI (x12+1)))]:List Int).length<=17592186044416 then(if 0<=wrapI (x12+2)then(if wrapI (x12+2)<=(x3.length:Int)then(if(t38++([T b0_0 (rd x3 x12) (rd x3 (wrapI (x12+1)))]:List Int)).length+(x3.drop (wrapI (x12+2):Int).toNat).length<=17592186044416 then((ZaU.f b0_0 b2_0 b2_1 ((t38++([T b0_0 (rd x3 x12) (rd x3 (wrapI (x12+1)))]:List Int))++(x3.drop (wrapI (x12+2):Int).toNat))).bind λ t67=>ZaM.l0 x3 x9 (wrapI (x10+(wrapI (x11*t67)))) (wrapI (0 - x11)) (wrapI (x12+1)) b0_0 b1_0 b1_1 b2_0 b2_1)else none)else none)else none)else none)else none)else none)else none)else none)else none)else none)else none)else none)else none)else none)else(if 0<=x9 then(if x9<=(x3.length:Int)then((ZaU.f b0_0 b2_0 b2_1 (x3.take (x9:Int).toNat)).bind λ t79=>(ZaT.f (wrapI (x10+(wrapI (x11*t79)))) b1_0).bind λ t84=>some t84)else none)else none):=(Zm _ _ _ _).trans (by kernel_rfl)
noncomputable def ZaM.con:Con:=⟨ZaM.fn.ins,ZaM.fn.outs,Int,λ x=>ZaM.f x.1 x.2.1 x.2.2.1 x.2.2.2.1 x.2.2.2.2.1 x.2.2.2.2.2.1,λ r=>((r,()),(()))⟩
theorem ZaM.valid:Valid Tryz.prog 133 ZaM.con:=fnV ZaM.fn ZaM.E ZaM.enc ⟨ttOk,(Zo ZaU.valid (Zo Zad.valid (Zo ZaT.valid Zat)))⟩ Tryz.func133
noncomputable def ZaL.E:Env:={ tt:=TT,con:=[(104,Zal.con)],frz:=[],rows:=[],live:=[(3,[2,7,8,9])],n:=32,pin:=0,nils:=[] }
noncomputable def ZaL.fn:D.Fn:={ body:=Tryz.f134.body.getD .skip,res:=Tryz.f134.results.toList,ins:=[.agg [.v (.sl 25 (.sl 2 (.int .i64)))],.one (.v (.int .i64)),.one (.v (.int .i64))],outs:=[.one (.own 2 true (.int .i64))] }
def ZaL.enc (y:lsd (flats ZaL.fn.outs)×lsd (ios ZaL.fn.ins)):(List Int):=y.1.1
noncomputable def ZaL.f (l0_0:List (List Int)) (a1:Int) (a2:Int):Option (List Int):=denF ZaL.E ZaL.fn ZaL.enc (l0_0,a1,a2,())
noncomputable def ZaL.l0 (x2:Int) (x8:Int) (x9:Int) (r0:List Int):Option (List Int):=denAt ZaL.E ZaL.fn ZaL.enc [1,1,0,1,0] { fr:=[(2,.lf (.int .i64 x2)),(7,.lf (.own 0)),(8,.lf (.int .i64 x8)),(9,.lf (.int .i64 x9))],ob:=[(0,.row 2 true (.int .i64) r0)],nx:=1 }
theorem ZaL.f_eq (l0_0:List (List Int)) (a1:Int) (a2:Int):ZaL.f l0_0 a1 a2=if a1=a1 then(if 0<=a1 then(if(a1:Int).toNat<=17592186044416 then((Zal.f l0_0).bind λ t13=>ZaL.l0 a2 (wrapI (t13 - 1)) (wrapI (a1 - 1)) (List.replicate (a1:Int).toNat (0:Int)))else none)else none)else none:=by kernel_rfl
theorem ZaL.l0_eq (x2:Int) (x8:Int) (x9:Int) (r0:List Int):ZaL.l0 x2 x8 x9 r0=if x9>=0 then(if x8=0 then none else(if 0<=x9 then(if x9 < (r0.length:Int)then(if 0<=x9 then(if x9 < (r0.length:Int)then(if x8=0 then none else(ZaL.l0 (wrapI ((x2:Int).tdiv x8)) x8 (wrapI (x9 - 1)) (r0.set (x9:Int).toNat (wrapI (((x2:Int).tmod x8)+1)))))else none)else none)else none)else none))else(some r0):=(Zm _ _ _ _).trans (by kernel_rfl)
noncomputable def ZaL.con:Con:=⟨ZaL.fn.ins,ZaL.fn.outs,(List Int),λ x=>ZaL.f x.1 x.2.1 x.2.2.1,λ r=>((r,()),(()))⟩
theorem ZaL.valid:Valid Tryz.prog 134 ZaL.con:=fnV ZaL.fn ZaL.E ZaL.enc ⟨ttOk,(Zo Zal.valid Zat)⟩ Tryz.func134
noncomputable def Z6.E:Env:={ tt:=TT,con:=[(76,ZP.con),(66,Zbh.con),(134,ZaL.con),(133,ZaM.con)],frz:=[],rows:=[],live:=[(3,[2,3,4,7,8,9]),(9,[2,3,4,7,8,9,10,11,12])],n:=58,pin:=0,nils:=[] }
noncomputable def Z6.fn:D.Fn:={ body:=Tryz.f121.body.getD .skip,res:=Tryz.f121.results.toList,ins:=[.agg [.v (.sl 25 (.sl 2 (.int .i64)))],.agg [.v (.int .i64),.v (.sl 2 (.int .i64))],.one (.v (.int .i64))],outs:=[.one (.own 25 true (.sl 2 (.int .i64)))] }
def Z6.enc (y:lsd (flats Z6.fn.outs)×lsd (ios Z6.fn.ins)):(List (List Int)):=y.1.1
noncomputable def Z6.f (l0_0:List (List Int)) (a1_0:Int) (l1_1:List Int) (a2:Int):Option (List (List Int)):=denF Z6.E Z6.fn Z6.enc (l0_0,a1_0,l1_1,a2,())
noncomputable def Z6.l0 (x2:Int) (x8:Int) (x9:Int) (b0_0:List (List Int)) (b1_0:Int) (b1_1:List Int) (r2:List (List Int)):Option (List (List Int)):=denAt Z6.E Z6.fn Z6.enc [1,1,0,1,0] { fr:=[(2,.lf (.int .i64 x2)),(3,.lf (.box 0 0)),(4,.lf (.box 1 0)),(7,.lf (.own 2)),(8,.lf (.int .i64 x8)),(9,.lf (.int .i64 x9))],ob:=[(0,.box 32 false [.sl (.sl 2 (.int .i64)) b0_0]),(1,.box 34 false [.int .i64 b1_0,.sl (.int .i64) b1_1]),(2,.row 25 true (.sl 2 (.int .i64)) r2)],nx:=3 }
noncomputable def Z6.l1 (x2:Int) (x8:Int) (x9:Int) (x12:Int) (b0_0:List (List Int)) (b1_0:Int) (b1_1:List Int) (r2:List (List Int)) (b3_0:Int) (r4:List Int) (r5:List Int):Option (List (List Int)):=denAt Z6.E Z6.fn Z6.enc [1,1,0,1,0,0,1,0,0,1,1,1,0,1,0] { fr:=[(2,.lf (.int .i64 x2)),(3,.lf (.box 0 0)),(4,.lf (.box 1 0)),(7,.lf (.own 2)),(8,.lf (.int .i64 x8)),(9,.lf (.int .i64 x9)),(10,.lf (.box 3 0)),(11,.lf (.own 4)),(12,.lf (.int .i64 x12))],ob:=[(0,.box 32 false [.sl (.sl 2 (.int .i64)) b0_0]),(1,.box 34 false [.int .i64 b1_0,.sl (.int .i64) b1_1]),(2,.row 25 true (.sl 2 (.int .i64)) r2),(3,.box 51 false [.int .i64 b3_0,.own 5]),(4,.row 2 true (.int .i64) r4),(5,.row 2 true (.int .i64) r5)],nx:=6 }
theorem Z6.f_eq (l0_0:List (List Int)) (a1_0:Int) (l1_1:List Int) (a2:Int):Z6.f l0_0 a1_0 l1_1 a2=(ZP.f l0_0 a2).bind λ t16=>Z6.l0 a2 t16 0 l0_0 a1_0 l1_1 ([]:List (List Int)):=by kernel_rfl
theorem Z6.l0_eq (x2:Int) (x8:Int) (x9:Int) (b0_0:List (List Int)) (b1_0:Int) (b1_1:List Int) (r2:List (List Int)):Z6.l0 x2 x8 x9 b0_0 b1_0 b1_1 r2=if x9 < x8 then((Zbh.f b0_0 x2).bind λ t24=>if 0<=x9 then(if x9 < (t24.2.length:Int)then(if 0<=x9 then(if x9 < (t24.2.length:Int)then(Z6.l1 x2 x8 x9 0 b0_0 b1_0 b1_1 r2 t24.1 ([]:List Int) (t24.2.set (x9:Int).toNat 1))else none)else none)else none)else none)else(some r2):=(Zm _ _ _ _).trans (by kernel_rfl)
theorem Z6.l1_eq (x2:Int) (x8:Int) (x9:Int) (x12:Int) (b0_0:List (List Int)) (b1_0:Int) (b1_1:List Int) (r2:List (List Int)) (b3_0:Int) (r4:List Int) (r5:List Int):Z6.l1 x2 x8 x9 x12 b0_0 b1_0 b1_1 r2 b3_0 r4 r5=(ZP.f b0_0 (wrapI (x2+1))).bind λ t34=>if x12 < t34 then((ZaL.f b0_0 (wrapI (x2+1)) x12).bind λ t46=>(ZaM.f b0_0 b1_0 b1_1 b3_0 r5 t46).bind λ t47=>if r4.length+([t47]:List Int).length<=17592186044416 then(Z6.l1 x2 x8 x9 (wrapI (x12+1)) b0_0 b1_0 b1_1 r2 b3_0 (r4++([t47]:List Int)) r5)else none)else(if r4.length+r5.length<=17592186044416 then(if r2.length+([r4++r5]:List (List Int)).length<=5864062014805 then(Z6.l0 x2 x8 (wrapI (x9+1)) b0_0 b1_0 b1_1 (r2++([r4++r5]:List (List Int))))else none)else none):=(Zm _ _ _ _).trans (by kernel_rfl)
noncomputable def Z6.con:Con:=⟨Z6.fn.ins,Z6.fn.outs,(List (List Int)),λ x=>Z6.f x.1 x.2.1 x.2.2.1 x.2.2.2.1,λ r=>((r,()),(()))⟩
theorem Z6.valid:Valid Tryz.prog 121 Z6.con:=fnV Z6.fn Z6.E Z6.enc ⟨ttOk,(Zo ZP.valid (Zo Zbh.valid (Zo ZaL.valid (Zo ZaM.valid Zat))))⟩ Tryz.func121
noncomputable def Zag.E:Env:={ tt:=TT,con:=[(76,ZP.con),(121,Z6.con),(77,Z4.con)],frz:=[25],rows:=[33,35],live:=[(5,[9,10,11,12,13,14])],n:=77,pin:=0,nils:=[] }
noncomputable def Zag.fn:D.Fn:={ body:=Tryz.f86.body.getD .skip,res:=Tryz.f86.results.toList,ins:=[.agg [.v (.sl 25 (.sl 2 (.int .i64)))],.agg [.v (.int .i64),.v (.sl 2 (.int .i64))],.one (.v (.int .i64))],outs:=[.one (.own 25 false (.sl 2 (.int .i64))),.one (.own 25 false (.sl 2 (.int .i64))),.one (.own 25 false (.sl 2 (.int .i64)))] }
def Zag.enc (y:lsd (flats Zag.fn.outs)×lsd (ios Zag.fn.ins)):(List (List Int))×(List (List Int))×(List (List Int)):=(y.1.1,y.1.2.1,y.1.2.2.1)
noncomputable def Zag.f (l0_0:List (List Int)) (a1_0:Int) (l1_1:List Int) (a2:Int):Option ((List (List Int))×(List (List Int))×(List (List Int))):=denF Zag.E Zag.fn Zag.enc (l0_0,a1_0,l1_1,a2,())
noncomputable def Zag.l0 (x9:Int) (x10:Int) (x14:Int) (r0:List (List Int)) (r1:List (List Int)) (r2:List (List Int)):Option ((List (List Int))×(List (List Int))×(List (List Int))):=denAt Zag.E Zag.fn Zag.enc [1,1,1,1,0,1,0] { fr:=[(9,.lf (.int .i64 x9)),(10,.lf (.int .i64 x10)),(11,.lf (.own 0)),(12,.lf (.own 1)),(13,.lf (.own 2)),(14,.lf (.int .i64 x14))],ob:=[(0,.row 25 false (.sl 2 (.int .i64)) r0),(1,.row 25 false (.sl 2 (.int .i64)) r1),(2,.row 25 false (.sl 2 (.int .i64)) r2)],nx:=3 }
theorem Zag.f_eq (l0_0:List (List Int)) (a1_0:Int) (l1_1:List Int) (a2:Int):Zag.f l0_0 a1_0 l1_1 a2=(ZP.f l0_0 (wrapI (a2+1))).bind λ t18=>(ZP.f l0_0 a2).bind λ t21=>(Z6.f l0_0 a1_0 l1_1 a2).bind λ t25=>(Z4.f t25 (wrapI (t18+t21)) a1_0).bind λ t31=>if t18=t18 then(if 0<=t18 then(if(t18:Int).toNat<=5864062014805 then(if t21=t21 then(if 0<=t21 then(if(t21:Int).toNat<=5864062014805 then(Zag.l0 t18 t21 0 t31 (List.replicate (t18:Int).toNat ([]:List Int)) (List.replicate (t21:Int).toNat ([]:List Int)))else none)else none)else none)else none)else none)else none:=by kernel_rfl
theorem Zag.l0_eq (x9:Int) (x10:Int) (x14:Int) (r0:List (List Int)) (r1:List (List Int)) (r2:List (List Int)):Zag.l0 x9 x10 x14 r0 r1 r2=if x14 < (wrapI (x9+x10))then(if 0<=x14 then(if x14 < (r0.length:Int)then(if 0<=x14 then(if x14 < (r0.length:Int)then(if((row r0 x14).length:Int)=0 then(Zag.l0 x9 x10 (wrapI (x14+1)) r0 r1 r2)else(if x14 < x9 then(if 0<=x14 then(if x14 < (r0.length:Int)then(if 0<=x14 then(if x14 < (r0.length:Int)then(if 0<=x9 then(if x9<=((row r0 x14).length:Int)then(if 0<=x14 then(if x14 < (r1.length:Int)then(if 0<=x14 then(if x14 < (r1.length:Int)then(Zag.l0 x9 x10 (wrapI (x14+1)) r0 (r1.set (x14:Int).toNat ((row r0 x14).take (x9:Int).toNat)) r2)else none)else none)else none)else none)else none)else none)else none)else none)else none)else none)else(if 0<=x14 then(if x14 < (r0.length:Int)then(if 0<=x14 then(if x14 < (r0.length:Int)then(if 0<=x9 then(if x9<=((row r0 x14).length:Int)then(if 0<=wrapI (x14 - x9)then(if wrapI (x14 - x9) < (r2.length:Int)then(if 0<=wrapI (x14 - x9)then(if wrapI (x14 - x9) < (r2.length:Int)then(Zag.l0 x9 x10 (wrapI (x14+1)) r0 r1 (r2.set (wrapI (x14 - x9):Int).toNat ((row r0 x14).drop (x9:Int).toNat)))else none)else none)else none)else none)else none)else none)else none)else none)else none)else none)))else none)else none)else none)else none)else(some (r1,r2,r0)):=(Zm _ _ _ _).trans (by kernel_rfl)
noncomputable def Zag.con:Con:=⟨Zag.fn.ins,Zag.fn.outs,(List (List Int))×(List (List Int))×(List (List Int)),λ x=>Zag.f x.1 x.2.1 x.2.2.1 x.2.2.2.1,λ r=>((r.1,r.2.1,r.2.2,()),(()))⟩
theorem Zag.valid:Valid Tryz.prog 86 Zag.con:=fnV Zag.fn Zag.E Zag.enc ⟨ttOk,(Zo ZP.valid (Zo Z6.valid (Zo Z4.valid Zat)))⟩ Tryz.func86
noncomputable def Za1.E:Env:={ tt:=TT,con:=[(86,Zag.con),(76,ZP.con)],frz:=[],rows:=[23],live:=[],n:=37,pin:=0,nils:=[] }
noncomputable def Za1.fn:D.Fn:={ body:=Tryz.f52.body.getD .skip,res:=Tryz.f52.results.toList,ins:=[.agg [.v (.sl 25 (.sl 2 (.int .i64)))],.agg [.v (.int .i64),.v (.sl 2 (.int .i64))],.one (.v (.int .i64))],outs:=[.one (.own 25 false (.sl 2 (.int .i64))),.one (.own 25 false (.sl 2 (.int .i64)))] }
def Za1.enc (y:lsd (flats Za1.fn.outs)×lsd (ios Za1.fn.ins)):(List (List Int))×(List (List Int)):=(y.1.1,y.1.2.1)
noncomputable def Za1.f (l0_0:List (List Int)) (a1_0:Int) (l1_1:List Int) (a2:Int):Option ((List (List Int))×(List (List Int))):=denF Za1.E Za1.fn Za1.enc (l0_0,a1_0,l1_1,a2,())
theorem Za1.f_eq (l0_0:List (List Int)) (a1_0:Int) (l1_1:List Int) (a2:Int):Za1.f l0_0 a1_0 l1_1 a2=(Zag.f l0_0 a1_0 l1_1 a2).bind λ t16=>(ZP.f l0_0 a2).bind λ t22=>if t22=t22 then(if 0<=t22 then(if(t22:Int).toNat<=5864062014805 then(if a2 > 0 then((Zag.f l0_0 a1_0 l1_1 (wrapI (a2 - 1))).bind λ t31=>some (t31.1,t16.2.1))else(some (List.replicate (t22:Int).toNat ([]:List Int),t16.2.1)))else none)else none)else none:=by kernel_rfl
noncomputable def Za1.con:Con:=⟨Za1.fn.ins,Za1.fn.outs,(List (List Int))×(List (List Int)),λ x=>Za1.f x.1 x.2.1 x.2.2.1 x.2.2.2.1,λ r=>((r.1,r.2,()),(()))⟩
theorem Za1.valid:Valid Tryz.prog 52 Za1.con:=fnV Za1.fn Za1.E Za1.enc ⟨ttOk,(Zo Zag.valid (Zo ZP.valid Zat))⟩ Tryz.func52
noncomputable def Zaz.E:Env:={ tt:=TT,con:=[],frz:=[],rows:=[],live:=[(2,[0,3])],n:=15,pin:=0,nils:=[] }
noncomputable def Zaz.fn:D.Fn:={ body:=Tryz.f106.body.getD .skip,res:=Tryz.f106.results.toList,ins:=[.one (.v (.int .i64))],outs:=[.one (.v .bool)] }
def Zaz.enc (y:lsd (flats Zaz.fn.outs)×lsd (ios Zaz.fn.ins)):Bool:=y.1.1
noncomputable def Zaz.f (a0:Int):Option Bool:=denF Zaz.E Zaz.fn Zaz.enc (a0,())
noncomputable def Zaz.l0 (x0:Int) (x3:Int):Option Bool:=denAt Zaz.E Zaz.fn Zaz.enc [1,0,1,0] { fr:=[(0,.lf (.int .i64 x0)),(3,.lf (.int .i64 x3))],ob:=[],nx:=0 }
theorem Zaz.f_eq (a0:Int):Zaz.f a0=Zaz.l0 a0 2:=by kernel_rfl
theorem Zaz.l0_eq (x0:Int) (x3:Int):Zaz.l0 x0 x3=if(wrapI (x3*x3))<=x0 then(if x3=0 then none else(if((x0:Int).tmod x3)=0 then(some false)else(Zaz.l0 x0 (wrapI (x3+1)))))else(some true):=(Zm _ _ _ _).trans (by kernel_rfl)
noncomputable def Zaz.con:Con:=⟨Zaz.fn.ins,Zaz.fn.outs,Bool,λ x=>Zaz.f x.1,λ r=>((r,()),(()))⟩
theorem Zaz.valid:Valid Tryz.prog 106 Zaz.con:=fnV Zaz.fn Zaz.E Zaz.enc ⟨ttOk,Zat⟩ Tryz.func106
end Go.Proofs.YtdamfbighdkcbaaGreat.P
