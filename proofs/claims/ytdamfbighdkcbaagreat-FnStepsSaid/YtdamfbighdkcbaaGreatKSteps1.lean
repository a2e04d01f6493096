/- What the proof of the law Steps stands on, part 1: words, each Go function's Lean function, and that the Go code comes to its answers; no condition. (Packed by wip/myprint/pack.py out of what the kit's printer wrote, its words among it, partly by our patches of it, and out of texts of this session.) -/
import Derived.Test.YtdamfbighdkcbaaGreatKSteps0
set_option linter.unusedVariables false
set_option linter.unusedSimpArgs false
namespace Go.Proofs.YtdamfbighdkcbaaGreat.D
open Go Go.RowKit
section
variable {P:Program} {B:Nat->Prop} {ρ : Rz} {Z:Nat->Prop} {ob:List (Nat×Ob)} {w w' : World} {β : Type} {KK:Eff->List Nat->Option β} {nd:List Nat} {r : β}
theorem Zfd:∀(t:Ty) {Z F:Nat->Prop} {w:World} {m:Bool},Rep Z w m t t.zero (zcells t) F
 | .int _,_,_,_,_=>rfl
 | .bool,_,_,_,_=>rfl
 | .str,_,_,_,_=>rfl
 | .raw,_,_,_,_=>⟨rfl,rfl⟩
 | .sl e t,Z,F,w,m=>by
  cases m with
  | false=>exact⟨none,0,rfl,⟨Nat.le_refl _,Nat.zero_le _,λ h=>absurd h (Nat.lt_irrefl _)⟩,λ _ _=>rfl⟩
  | true=>exact⟨_,rfl,⟨[],World.ownsRow_nil w 0 e t.size,(λ k hk=>by cases hk),λ _ _=>False,(λ j p hp=>by have hp:([]:List t.den)[j]? = some p:=hp;simp at hp),(λ _ _ h=>h.elim),λ _ _ _ _ h=>h.elim⟩,λ _ _=>rfl⟩
 | .pr a b,Z,F,w,m=>⟨_,_,λ _=>False,λ _=>False,rfl,Zfd a,Zfd b,λ _ h=>h.elim,λ _ h=>h.elim,λ _ h=>h.elim⟩
theorem ZcL (hm:Mem P B ρ Z (look ob) w) {n:Nat} (hn : ρ n=none) {e sz:Nat} {m:Bool} {t:Ty} (hsz:sz=t.size) {ys:List t.den} {inner:List Value} {v:Value} {c:List Nat} (hc:Alive ob c) (hnc:n ∉ c) (hown:w'.ownsRow 0 e sz v ys.length inner)
  (hblk:∀k,v.ownBlock=some k->(Of ρ c k\/w.heap.size<=k)) (hos:w'.os=w.os) (htape:w'.tape=w.tape) (hout:w'.output=w.output) (hle:w.heap.size<=w'.heap.size)
  (hchg:∀k,k < w.heap.size->¬ Of ρ c k->w'.heap[k]? = w.heap[k]?) (Fs:Nat->Nat->Prop) (hel:∀(j:Nat) (p:t.den),ys[j]? = some p->Rep Z w' m t p ((inner.drop (j*t.size)).take t.size) (Fs j))
  (hsub:∀j k,Fs j k->Of ρ c k/\v.ownBlock≠some k) (hdis:∀i j k,i≠j->Fs i k->¬ Fs j k):Done P B ρ Z ob w ⟨.lf (.own n),[(n,.row e m t ys)],c⟩ v w' := by
 subst hsz;have hor:OR P B (upd ρ n ⟨v,λ k=>v.ownBlock=some k\/Of ρ c k⟩) Z w' (.row e m t ys) ⟨v,λ k=>v.ownBlock=some k\/Of ρ c k⟩ :=
  ⟨inner,hown,λ k hk => .inl hk,Fs,hel,λ j k hk=>⟨.inr (hsub j k hk).1,(hsub j k hk).2⟩,hdis⟩
 obtain ⟨h1,h2⟩:=Ze6 hm (n:=n) (o := .row e m t ys) (z:=⟨v,λ k=>v.ownBlock=some k\/Of ρ c k⟩) (c:=c) (del:=c) hc (λ _ h => .inr h) hnc (λ z0 h=>by rw[hn]at h;cases h) hos htape hout hle (λ h=>absurd h (Zel hm hn)) hchg
  (λ k hk=>by
   rcases hk with hk|hk
   ·exact⟨hblk k hk,(hown.lt k hk).2⟩
   ·exact⟨.inl hk,Nat.lt_of_lt_of_le (hm.zsep k (hk.own hc)).2 hle⟩) hor
 exact⟨_,Z,h1,h2,⟨_,if_pos rfl,rfl,Zdt hown⟩,λ T h h' => Zmv (x := .row e m t ys) T h h'⟩
theorem Zov (hm:Mem P B ρ Z (look ob) w) {m:Bool} {t:Ty} {x:t.den} {cs:List Value} {c:List Nat} {F:Nat->Prop} (h:Rep Z w m t x cs F) (hF:∀k,F k->Of ρ c k) (hc:Alive ob c) (hchg:∀k,k < w.heap.size->w'.heap[k]? = w.heap[k]?):Rep Z w' m t x cs F :=
 Rep.imp t h (λ _ h=>h) (λ _ h=>h) (λ k hk=>hchg k (hm.zlt k hk)) λ k hk=>hchg k (hm.zsep k ((hF k hk).own hc)).2
structure Els (ρ : Rz) (Z:Nat->Prop) (w:World) (m:Bool) (t:Ty) (ys:List t.den) (inner:List Value) (c:List Nat) (Fs:Nat->Nat->Prop):Prop where
 len:inner.length=ys.length*t.size
 el:∀(j:Nat) (p:t.den),ys[j]? = some p->Rep Z w m t p ((inner.drop (j*t.size)).take t.size) (Fs j)
 sub:∀j k,Fs j k->Of ρ c k
 dis:∀i j k,i≠j->Fs i k->¬ Fs j k
 one:∀u∈inner,u.oneCell' = true
theorem Els.nil {m:Bool} {t:Ty} {c:List Nat}:Els ρ Z w m t [] [] c λ _ _=>False:=⟨by simp,λ j p hp=>by simp at hp,λ _ _ h=>h.elim,λ _ _ _ _ h=>h.elim,λ _ h=>by cases h⟩
theorem Els.cons (hm:Mem P B ρ Z (look ob) w) {m:Bool} {t:Ty} {y:t.den} {ys:List t.den} {cs inner:List Value} {c c' : List Nat} {Fs:Nat->Nat->Prop} (hy:Rep Z w m t y cs (Of ρ c)) (hys:Els ρ Z w m t ys inner c' Fs) (hc:Alive ob c) (hc' : Alive ob c') (hd:∀T∈c,T ∉ c') :
  Els ρ Z w m t (y :: ys) (cs++inner) (c++c') λ j k=>match j with|0=>Of ρ c k|j+1=>Fs j k:=by
 have hl:=Rep.len t hy;refine⟨by rw[List.length_append,hl,hys.len,List.length_cons,Nat.add_mul,Nat.one_mul,Nat.add_comm],λ j p hp => ?_,λ j k hk => ?_,λ i j k hne hi hj => ?_,λ u hu=>(List.mem_append.1 hu).elim (Rep.one t hy u) (hys.one u)⟩
 ·
  cases j with
  | zero =>
   cases hp
   rw[Nat.zero_mul,List.drop_zero,List.take_append_of_le_length (by omega),List.take_of_length_le (by omega)];exact hy
  | succ j =>
   have hp:ys[j]? = some p:=hp;rw[show(j+1)*t.size=cs.length+j*t.size by rw[Nat.add_mul,Nat.one_mul,hl,Nat.add_comm],List.drop_append];rw[List.drop_of_length_le (by omega),List.nil_append,Nat.add_sub_cancel_left];exact hys.el j p hp
 ·
  cases j with
  | zero=>exact let ⟨T,z,h1,h2⟩:=hk;⟨T,z,List.mem_append_left _ h1,h2⟩
  | succ j=>exact let ⟨T,z,h1,h2⟩:=hys.sub j k hk;⟨T,z,List.mem_append_right _ h1,h2⟩
 ·
  cases i with
  | zero =>
   cases j with
   | zero=>exact hne rfl
   | succ j=>exact Of.sep hm hc hc' hd hi (hys.sub j k hj)
  | succ i =>
   cases j with
   | zero=>exact Of.sep hm hc hc' hd hj (hys.sub i k hi)
   | succ j=>exact hys.dis i j k (λ e=>hne (by rw[e])) hi hj
def evals (a:Act):List (Nat×Operand)->List Value
 | []=>[]
 | (_,x) :: r=>a.eval x :: evals a r
theorem ZfR (hm:Mem P B ρ Z (look ob) w) {f:Operand->Option AV} {a:Act} (hf:∀x av,f x=some av->AR P B ρ Z w av (a.eval x)) {m:Bool} {t:Ty}:∀(parts:List (Nat×Operand)) (n:Nat) (nd:List Nat) (K:List t.den->List Nat->Pg Eff),(elems f m t n parts K).run ob KK nd=some r ->
  ∃ys c nd', (K ys c).run ob KK nd' = some r/\ys.length=parts.length/\Alive ob c/\(∀v∈evals a parts,v.cells.size=t.size)/\(parts.map λ p=>(p.1,a.eval p.2))=((evals a parts).zipIdx n).map (λ x=>(x.2,x.1)) /\
   (nodup c=true->∃Fs,Els ρ Z w m t ys ((evals a parts).flatMap λ v=>v.cells.toList) c Fs)
 | [],n,nd,K,h=>⟨[],[],nd,h,rfl,(λ _ h=>by cases h),(λ _ h=>by cases h),rfl,λ _=>⟨_,Els.nil⟩⟩
 | (i, x) :: r', n,nd,K,h=>by
  unfold elems at h;rw[ZaO]at h;obtain⟨hi,h⟩:=h;obtain rfl:=Nat.eq_of_beq_eq_true hi
  split at h
  ·
   rename_i v hv
   split at h
   ·
    rename_i ls hls
    rw[ZaO]at h;obtain⟨hn,h⟩:=h;have hn:=Nat.eq_of_beq_eq_true hn;obtain⟨hl,hok⟩:=Zdc hls (hf x v hv);obtain⟨y,ls', c,nd1,cs,vs', h,hvs,hl', htell,hal,hcl⟩:=Zdz hm _ _ _ _ _ h hl;rw[ZaO]at h;obtain⟨he,h⟩:=h;have hls' : ls' = []:=by simpa using he
    subst hls'
    cases hl'
    rw[List.append_nil]at hvs;obtain⟨ys,c', nd2,h,hlen,hal', hsz,hparts,hels⟩:=ZfR hm hf r' (n+1) nd1 _ h;refine⟨y :: ys,c++c', nd2,h,by simp[hlen],λ T hT=>(List.mem_append.1 hT).elim (hal T) (hal' T),λ u hu => ?_,?_,λ hnd => ?_⟩
    ·
     rcases List.mem_cons.1 hu with rfl|hu
     ·rw[<-hcl,<-hvs];simp
     ·exact hsz u hu
    ·simp only[List.map_cons,evals,List.zipIdx_cons,hparts]
    ·
     obtain⟨n1,n2,n3⟩:=nodup_append hnd;obtain⟨Fs,hE⟩:=hels n2;have hrep:Rep Z w m t y cs (Of ρ c):=by
      cases m with
      | true=>exact htell n1
      | false=>exact Rep.noF t htell
     have:=Els.cons hm hrep hE hal hal' n3;simp only[evals,List.flatMap_cons];rw[hvs];exact⟨_,this⟩
   ·cases h
  ·cases h
theorem Ze8 (hm:Mem P B ρ Z (look ob) w) {E:Env} (hE:TtOk P E.tt) {nx:Nat} {f:Operand->Option AV} {a:Act} (hf:∀x av,f x=some av->AR P B ρ Z w av (a.eval x)) {m:Bool} {t:TypeId} {n:Nat} {parts:List (Nat×Operand)} (h:(Zdu E nx f m t n parts).run ob KK nd=some r) :
  SaysF P B ρ Z ob w KK r nx (Instr.buildSlice t n (parts.map λ p=>(p.1,a.eval p.2)).toArray):=by
 unfold Zdu at h
 split at h
 ·
  rename_i i hi
  split at h
  ·
   rename_i e hk
   have hu:P.underlying t=some (.slice e):=by have:=(hE t i hi).kind;rw[hk]at this;exact this
   split at h
   ·
    rename_i ie hie
    rw[ZaO]at h;obtain⟨hc,h⟩:=h;simp only[Bool.and_eq_true]at hc;obtain⟨⟨⟨⟨hc1,hc2⟩,hc3⟩,hc4⟩,hc5⟩:=hc;have hc1:=Nat.eq_of_beq_eq_true hc1;have hc2:=Nat.le_of_ble_eq_true hc2;have hc3:=Nat.eq_of_beq_eq_true hc3;have hc5:=Nat.eq_of_beq_eq_true hc5;obtain⟨ys,c,nd', h,hlen,hal,hsz,hparts,hels⟩:=ZfR hm hf parts 0 nd _ h;rw[ZaO]at h;obtain⟨hnd,h⟩:=h;refine⟨_,nd', h,λ hnx => ?_⟩;have hnx:=hnx nx (Nat.le_refl _) (by simp);obtain⟨Fs,hEl⟩:=hels hnd;have hpos:=ZcF ie.ty;obtain⟨info,h1,h2,h3,h4⟩:=(hE e ie hie).info;obtain⟨z,hz,hzc,hzl⟩:=h4 hc5 (by omega);have hzl:=hzl hc4;have hev:(evals a parts).length=n:=by
     rw[hc1];have:=congrArg List.length hparts
     simpa using this.symm
    let inner:=(evals a parts).flatMap λ v=>v.cells.toList
    have hrun:(Instr.buildSlice t n (parts.map λ p=>(p.1,a.eval p.2)).toArray).run P w = .ok (.slice (some ⟨w.heap.size,0,none⟩) n n) (w.alloc (.cells inner.toArray e)):=by
     rcases Nat.eq_zero_or_pos n with h0|h0
     ·subst h0;have hp0:parts=[]:=List.eq_nil_of_length_eq_zero hc1.symm;subst hp0;show _=Result.ok _ (w.alloc (.cells (#[]:Array Value) e));simp[Instr.buildSlice,run_underlying hu,sizeOf,typeInfo,h1,Instr.fill,newRow,Array.range_zero']
     ·
      have hnz:¬ n*info.size=0:=by rw[h2,<-hc3];exact Nat.ne_of_gt (Nat.mul_pos h0 hpos)
      refine run_buildSlice w t e n _ inner.toArray info z hu h1 hz (by rw[h2];omega) hnz ?_
      have hfill:=Great.fill_whole (s:=info.size) (by rw[h2,<-hc3];exact hpos) (evals a parts) ((Array.range (n*info.size)).map (z.cells[· % z.cells.size]!)) (λ v hv=>by rw[h2,<-hc3];exact hsz v hv) (by simp[hev])
      rw[<-hparts]at hfill
      simpa using hfill
    have hyl:ys.length=n:=by rw[hlen,hc1]
    have hil:inner.toArray.size=n*ie.ty.size:=by rw[List.size_toArray,hEl.len,hyl]
    refine⟨_,_,hrun,?_⟩;have hnmax:n<=maxLen:=by
     have:n*1<=n*ie.size:=Nat.mul_le_mul_left n (by rw[<-hc3];exact hpos)
     simp only[maxLen];omega
    have hown:(w.alloc (.cells inner.toArray e)).ownsRow 0 e ie.ty.size (.slice (some ⟨w.heap.size,0,none⟩) n n) ys.length inner:=by rw[hyl];exact World.ownsRow_lit w inner.toArray n (Nat.zero_le _) hnmax hil
    have hnc:nx ∉ c:=λ hin=>Zel hm hnx (hal nx hin)
    refine ZcL hm hnx rfl hal hnc hown (λ k hk => .inr (by simp[Value.ownBlock]at hk;omega)) rfl rfl rfl (by simp) (λ k hk _=>ZdK w _ k hk) Fs (λ j p hp=>Zov hm (hEl.el j p hp) (hEl.sub j) hal (ZdK w _)) (λ j k hk=>⟨hEl.sub j k hk,λ he => ?_⟩) hEl.dis
    have hlt:=(hm.zsep k ((hEl.sub j k hk).own hal)).2;simp[Value.ownBlock]at he;omega
   ·cases h
  ·cases h
 ·cases h
theorem ZeG (zs:Array Value) (n j:Nat) (hz:0 < zs.size) (hj:j < n):(((madeCells zs (n*zs.size)).toList.drop (j*zs.size)).take zs.size)=zs.toList:=by
 have hjn:(j+1)*zs.size<=n*zs.size:=Nat.mul_le_mul_right _ hj;rw[Nat.add_mul,Nat.one_mul]at hjn
 apply List.ext_getElem?
 intro k;rw[List.getElem?_take,List.getElem?_drop]
 by_cases hk:k < zs.size
 ·
  rw[if_pos hk];have h1:j*zs.size+k < n*zs.size:=by omega
  have h2:(j*zs.size+k)%zs.size=k:=by rw[Nat.add_comm,Nat.add_mul_mod_self_right,Nat.mod_eq_of_lt hk]
  simp[madeCells,h1,h2,hk]
 ·rw[if_neg hk,List.getElem?_eq_none (by simpa using Nat.le_of_not_lt hk)]
theorem Zjb (hm:Mem P B ρ Z (look ob) w) {E:Env} (hE:TtOk P E.tt) {nx:Nat} {m:Bool} {t:TypeId} {x y:AV} {vx vy:Value} (h:(pMake E nx m t x y).run ob KK nd=some r) (hx:AR P B ρ Z w x vx) (hy:AR P B ρ Z w y vy):SaysF P B ρ Z ob w KK r nx (Instr.makeSlice t vx vy):=by
 unfold pMake at h
 split at h
 ·
  rename_i k n k' n'
  cases hx
  cases hy
  split at h
  ·
   rename_i i hi
   split at h
   ·
    rename_i e hk
    have hu:P.underlying t=some (.slice e):=by have:=(hE t i hi).kind;rw[hk]at this;exact this
    split at h
    ·
     rename_i ie hie
     rw[ZaO,ZZ,ZZ,ZZ]at h;obtain⟨hc,rfl,h0,hlim,h⟩:=h;simp only[Bool.and_eq_true,Bool.not_eq_true']at hc;obtain⟨⟨⟨hc1,hc2⟩,hc3⟩,hc4⟩:=hc;have hc1:=Nat.eq_of_beq_eq_true hc1;have hc4:=Nat.eq_of_beq_eq_true hc4;have hb0:0 < ie.bytes:=Nat.pos_of_ne_zero λ h0=>by rw[h0]at hc2;cases hc2
     have hpos:=ZcF ie.ty;obtain⟨info,h1,h2,h3,h4⟩:=(hE e ie hie).info;obtain⟨z,hz,hzc,hzl⟩:=h4 hc4 (by omega);have hzl:=hzl hc3;refine⟨_,nd,h,λ hnx => ?_⟩;have hnx:=hnx nx (Nat.le_refl _) (by simp);have hlb:n.toNat*ie.bytes<=140737488355328:=by unfold lim at hlim;exact Nat.le_trans (Nat.mul_le_mul_right _ hlim) (Nat.div_mul_le_self _ _)
     have hnn:n.toNat*1<=n.toNat*ie.bytes:=Nat.mul_le_mul_left _ hb0;obtain⟨w', hr,hown,hg⟩:=run_make_full (P:=P) w 0 t e info z info.size hu h1 hz rfl k k' n.toNat (by rw[h3,Nat.mul_comm];omega) (by simp only[maxLen];omega) (Nat.zero_le _);rw[Int.toNat_of_nonneg h0]at hr;refine⟨_,_,hr,?_⟩;have hzsz:z.cells.size=ie.ty.size:=by have h5:=(ZbW (P:=P) (B:=B) (ρ := ρ) (Z:=Z) (w:=w) hzc).1.len;rw[Array.length_toList,hc4]at h5;rw[h5,hc1]
     have hsame:∀k,k < w.heap.size->w'.heap[k]? = w.heap[k]? := λ k hk=>hg.block k hk (by simp)
     have hown' : w'.ownsRow 0 e ie.ty.size (.slice (some ⟨w.heap.size,0,none⟩) n.toNat n.toNat) (List.replicate n.toNat ie.ty.zero).length (madeCells z.cells (n.toNat*z.cells.size)).toList:=by rw[List.length_replicate,hzsz,hc1,<-h2];exact hown
     refine ZcL hm hnx rfl (c:=[]) (λ _ h=>by cases h) (by simp) hown' (λ k hk => .inr (by simp[Value.ownBlock]at hk;omega)) hg.os hg.tape hg.output hg.size (λ k hk _=>hsame k hk) (λ _ _=>False) (λ j p hp => ?_) (λ _ _ h=>h.elim) (λ _ _ _ _ h=>h.elim)
     have hj:j < n.toNat:=by have:=(List.getElem?_eq_some_iff.1 hp).1;rwa[List.length_replicate]at this
     rw[List.getElem?_replicate,if_pos hj]at hp
     cases hp
     rw[<-hzsz,ZeG z.cells n.toNat j (by omega) hj,hzl];exact Zfd ie.ty
    ·cases h
   ·cases h
  ·cases h
 ·cases h
end
section
variable {P:Program} {B:Nat->Prop} {ρ : Rz} {Z:Nat->Prop} {ob:List (Nat×Ob)} {w w' : World} {β : Type} {KK:Eff->List Nat->Option β} {nd:List Nat} {r : β}
theorem Zk2 {m:Bool} {t:Ty} {xs:List t.den} {inner:List Value} {Fs:Nat->Nat->Prop} (hl:inner.length=xs.length*t.size) (hel:∀(j:Nat) (p:t.den),xs[j]? = some p->Rep Z w m t p ((inner.drop (j*t.size)).take t.size) (Fs j)):∀u∈inner,u.oneCell' = true:=by
 intro u hu;obtain⟨i,hi,hiu⟩:=List.getElem_of_mem hu;have hpos:=ZcF t;have hd:i / t.size < xs.length:=by rw[Nat.div_lt_iff_lt_mul hpos,<-hl];exact hi
 have hr:=hel (i / t.size) _ (List.getElem?_eq_getElem hd);refine Rep.one t hr u (List.mem_of_getElem? (i:=i%t.size) ?_);rw[List.getElem?_take,if_pos (Nat.mod_lt _ hpos),List.getElem?_drop,Nat.mul_comm,Nat.div_add_mod,List.getElem?_eq_getElem hi,hiu]
theorem Els.append (hm:Mem P B ρ Z (look ob) w) {m:Bool} {t:Ty} {xs ys:List t.den} {inner news:List Value} {c c' : List Nat} {Fs Fs' : Nat->Nat->Prop} (hx:Els ρ Z w m t xs inner c Fs) (hy:Els ρ Z w m t ys news c' Fs') (hc:Alive ob c) (hc' : Alive ob c') (hd:∀T∈c,T ∉ c') :
  Els ρ Z w m t (xs++ys) (inner++news) (c++c') λ j k=>if j < xs.length then Fs j k else Fs' (j - xs.length) k:=by
 have hl:=hx.len;refine⟨by rw[List.length_append,hx.len,hy.len,List.length_append,Nat.add_mul],λ j p hp => ?_,λ j k hk => ?_,λ i j k hne hi hj => ?_,λ u hu=>(List.mem_append.1 hu).elim (hx.one u) (hy.one u)⟩
 ·
  by_cases hj:j < xs.length
  ·rw[List.getElem?_append_left hj]at hp;have h1:(j+1)*t.size<=xs.length*t.size:=Nat.mul_le_mul_right _ hj;rw[Nat.add_mul,Nat.one_mul]at h1;rw[List.drop_append_of_le_length (by omega),List.take_append_of_le_length (by rw[List.length_drop];omega)];exact Rep.imp t (hx.el j p hp) (λ _ h=>h) (λ k hk=>by rw[if_pos hj];exact hk) (λ _ _=>rfl) (λ _ _=>rfl)
  ·rw[List.getElem?_append_right (by omega)]at hp;have h1:xs.length*t.size<=j*t.size:=Nat.mul_le_mul_right _ (by omega);rw[List.drop_append,List.drop_of_length_le (by omega),List.nil_append,hl,<-Nat.sub_mul];exact Rep.imp t (hy.el _ p hp) (λ _ h=>h) (λ k hk=>by rw[if_neg hj];exact hk) (λ _ _=>rfl) (λ _ _=>rfl)
 ·
  by_cases hj:j < xs.length
  ·rw[if_pos hj]at hk;exact let ⟨T,z,h1,h2⟩:=hx.sub j k hk;⟨T,z,List.mem_append_left _ h1,h2⟩
  ·rw[if_neg hj]at hk;exact let ⟨T,z,h1,h2⟩:=hy.sub _ k hk;⟨T,z,List.mem_append_right _ h1,h2⟩
 ·
  by_cases h1:i < xs.length
  ·
   rw[if_pos h1]at hi
   by_cases h2:j < xs.length
   ·rw[if_pos h2]at hj;exact hx.dis i j k hne hi hj
   ·rw[if_neg h2]at hj;exact Of.sep hm hc hc' hd (hx.sub i k hi) (hy.sub _ k hj)
  ·
   rw[if_neg h1]at hi
   by_cases h2:j < xs.length
   ·rw[if_pos h2]at hj;exact Of.sep hm hc hc' hd (hx.sub j k hj) (hy.sub _ k hi)
   ·rw[if_neg h2]at hj;exact hy.dis _ _ k (λ e=>hne (by omega)) hi hj
theorem Zjr {t:Ty} {ys:List t.den} {ad:Addr} (hc:∀(j:Nat) (p:t.den),ys[j]? = some p->∃cs,cs.length=t.size/\Rep Z w false t p cs (λ _=>False)/\∀(i:Nat) (u:Value),cs[i]? = some u->w.cell? (ad.add (j*t.size+i))=some u) :
  ∃news:List Value,news.length=ys.length*t.size/\(∀(j:Nat) (p:t.den),ys[j]? = some p->Rep Z w false t p ((news.drop (j*t.size)).take t.size) λ _=>False)/\∀j u,news[j]? = some u->w.cell? (ad.add j)=some u:=by
 have hpos:=ZcF t;refine⟨(List.range (ys.length*t.size)).map λ i=>(w.cell? (ad.add i)).getD undef,by simp,λ j p hp => ?_,λ i u hu => ?_⟩
 ·
  obtain⟨cs,h1,h2,h3⟩:=hc j p hp;have hj:=(List.getElem?_eq_some_iff.1 hp).1;have hjn:(j+1)*t.size<=ys.length*t.size:=Nat.mul_le_mul_right _ hj;rw[Nat.add_mul,Nat.one_mul]at hjn;have:((((List.range (ys.length*t.size)).map λ i=>(w.cell? (ad.add i)).getD undef).drop (j*t.size)).take t.size)=cs:=by
   apply List.ext_getElem?
   intro k;rw[List.getElem?_take,List.getElem?_drop]
   by_cases hk:k < t.size
   ·
    rw[if_pos hk,List.getElem?_map,List.getElem?_range (by omega)];have h4:cs[k]? = some cs[k]:=List.getElem?_eq_getElem (by omega);rw[h4,Option.map_some,h3 k _ h4]
    rfl
   ·rw[if_neg hk,List.getElem?_eq_none (by omega)]
  rw[this];exact h2
 ·
  rw[List.getElem?_map]at hu;have hi:i < ys.length*t.size:=by
   rcases Nat.lt_or_ge i (ys.length*t.size)with h|h
   ·exact h
   ·rw[List.getElem?_eq_none (by simpa using h)]at hu;cases hu
  rw[List.getElem?_range hi]at hu;have hd:i / t.size < ys.length:=(Nat.div_lt_iff_lt_mul hpos).2 hi;obtain⟨cs,h1,h2,h3⟩:=hc (i / t.size) _ (List.getElem?_eq_getElem hd);have h4:cs[i%t.size]? = some (cs[i%t.size]'(by rw[h1];exact Nat.mod_lt _ hpos)):=List.getElem?_eq_getElem _;have h5:=h3 _ _ h4;rw[Nat.mul_comm,Nat.div_add_mod]at h5;rw[Option.map_some,h5]at hu;rw[h5];exact hu
def Adds (ρ : Rz) (Z:Nat->Prop) (w:World) (m:Bool) (t:Ty) (vx:Value) (ys:List t.den) (c:List Nat):Prop :=
 (∃cc,vx = .slice none 0 cc/\ys=[])\/∃ad cc news Fs,vx = .slice (some ad) ys.length cc/\Els ρ Z w m t ys news c Fs/\∀j u,news[j]? = some u->w.cell? (ad.add j)=some u
theorem Zjl {T:Nat} {z:Rzv} (hz : ρ T=some z) {e:TypeId} {m:Bool} {t:Ty} {xs:List t.den} (h:Zch w e t.size (Rep Z w m t) z.hdr xs z.F) :
  ∃inner Fs,w.ownsRow 0 e t.size z.hdr xs.length inner/\(∀k,z.hdr.ownBlock=some k->z.F k)/\Els ρ Z w m t xs inner [T] Fs/\∀j k,Fs j k->z.F k/\z.hdr.ownBlock≠some k:=by
 obtain⟨inner,hown,hb,Fs,hel,hsub,hdis⟩:=h;exact⟨inner,Fs,hown,hb,⟨hown.1,hel,λ j k hk=>⟨T,z,List.mem_singleton.2 rfl,hz,(hsub j k hk).1⟩,hdis,Zk2 hown.1 hel⟩,hsub⟩
theorem Zeg (hm:Mem P B ρ Z (look ob) w) {m:Bool} {e:TypeId} {t:Ty} {x:AV} {vx:Value} {K:List t.den->List Nat->Pg Eff} (h:(added m e t x K).run ob KK nd=some r) (hx:AR P B ρ Z w x vx) :
  ∃ys c nd', (K ys c).run ob KK nd' = some r/\Alive ob c/\Adds ρ Z w m t vx ys c:=by
 unfold added at h
 split at h
 ·
  cases hx
  exact⟨[],[],nd,h,(λ _ h=>by cases h),.inl ⟨0,rfl,rfl⟩⟩
 ·
  obtain⟨A,cc,rfl,_⟩:=hx;refine⟨[],[],nd,h,(λ _ h=>by cases h),?_⟩
  cases A with
  | none=>exact .inl ⟨cc,rfl,rfl⟩
  | some ad=>exact .inr ⟨ad,cc,[],_,rfl,Els.nil,λ j u hu=>by simp at hu⟩
 ·
  rename_i K' t' ys
  rw[ZaO]at h;obtain⟨hc,h⟩:=h
  cases he:Ty.eq? t' t with
  | none=>rw[he]at h;cases h
  | some hh =>
   rw[he]at h;obtain⟨hh⟩:=hh;subst hh;refine⟨ys,[],nd,h,(λ _ h=>by cases h),?_⟩;obtain⟨A,cc,rfl,h1,h2,h3⟩:=hx;have conv:∀(p:t'.den) (cs:List Value),Rep Z w false t' p cs (λ _=>False)->Rep Z w m t' p cs λ _=>False:=λ p cs hp=>by
    cases m with
    | false=>exact hp
    | true =>
     simp only[Bool.not_true,Bool.false_or]at hc;exact Rep.flat t' hc hp
   rcases Nat.eq_zero_or_pos (List.length ys)with h0|h0
   ·
    have h0' : ys=[]:=List.eq_nil_of_length_eq_zero h0;subst h0'
    cases A with
    | none=>exact .inl ⟨cc,rfl,rfl⟩
    | some ad=>exact .inr ⟨ad,cc,[],_,rfl,Els.nil,λ j u hu=>by simp at hu⟩
   ·obtain⟨ad,rfl,hz,hcc⟩:=h3 h0;obtain⟨news,n1,n2,n3⟩:=Zjr hcc;exact .inr ⟨ad,cc,news,λ _ _=>False,rfl,⟨n1,λ j p hp=>conv p _ (n2 j p hp),λ _ _ h=>h.elim,λ _ _ _ _ h=>h.elim,Zk2 n1 n2⟩,n3⟩
 ·
  rename_i K' T
  rw[Zbu]at h;obtain⟨o,ho,h⟩:=h
  split at h
  ·
   rename_i e' m' t' ys
   rw[ZaO]at h;obtain⟨hc,h⟩:=h;simp only[Bool.and_eq_true]at hc;obtain⟨he', hc⟩:=hc;obtain rfl:=Nat.eq_of_beq_eq_true he'
   cases he:Ty.eq? t' t with
   | none=>rw[he]at h;cases h
   | some hh =>
    rw[he]at h;obtain⟨hh⟩:=hh;subst hh;obtain⟨z,hz,hrow⟩:=hm.obj T _ ho;obtain⟨z', hz', rfl,_⟩:=hx;rw[hz]at hz'
    cases hz'
    obtain⟨inner,Fs,hown,hb,hEl,hsub⟩:=Zjl hz hrow;refine⟨ys,bif t'.flat then []else [T],_,h,λ U hU => ?_,?_⟩
    ·
     cases hf:t'.flat with
     | true=>rw[hf]at hU;cases hU
     | false =>
      rw[hf]at hU;rw[List.mem_singleton.1 hU,ho];rfl
    ·
     rcases hown.2 with ⟨hv,h0⟩|⟨g,cap,cur,hv,_⟩
     ·exact .inl ⟨0,hv,List.eq_nil_of_length_eq_zero h0⟩
     ·
      refine .inr ⟨⟨g,0,none⟩,cap,inner,if t'.flat then λ _ _=>False else Fs,hv,?_,hown.cells (by rw[hv];rfl)⟩
      cases hf:t'.flat with
      | true =>
       simp only[cond_true,if_true];exact⟨hEl.len,λ j p hp=>Rep.flat t' hf (hEl.el j p hp),λ _ _ h=>h.elim,λ _ _ _ _ h=>h.elim,hEl.one⟩
      | false =>
       rw[hf]at hc;simp only[Bool.false_or,Bool.or_eq_true,Bool.and_eq_true,Bool.not_eq_true']at hc;have hmm:m=m' := by rcases hc with ⟨h1,h2⟩|⟨h1,h2⟩ <;> rw[h1,h2]
       subst hmm;simp only[cond_false,Bool.false_eq_true,if_false];exact hEl
  ·cases h
 ·cases h
theorem Zhy (t ty e:TypeId) (i:TypeInfo) (z:Value) (ht:P.underlying t=some (.slice e)) (hi:P.info? e=some i) (hz:i.zero=some z) (hzs:z.cells.size=i.size) (hsz:0 < i.size)
  (v:Value) (n:Nat) (xs:List Value) (hown:w.ownsRow 0 e i.size v n xs) (a:Addr) (m c:Nat) (news:List Value) (hl:news.length=m*i.size) (hnews:∀j u,news[j]? = some u->w.cell? (a.add j)=some u) (h1:∀u∈news,u.oneCell' = true)
  (h63:n+m<=maxLen) (hbytes:(n+m)*i.bytes<=140737488355328) :
  ∃v' w', (Builtin.append_ #[t,t] ty #[v,.slice (some a) m c]).run P w = .ok v' w' /\ w'.ownsRow 0 e i.size v' (n+m) (xs++news)/\w.grownBy w' v.ownBlock/\∀k,v'.ownBlock=some k->v.ownBlock=some k\/w.heap.size<=k:=by
 obtain⟨v', w', hr,h2,h3,h4⟩:=run_append_own (P:=P) w 0 t ty e i z i.size i.bytes ht hi hz rfl rfl hzs hsz v n xs hown a m c news hl hnews h1 h63 hbytes (Nat.zero_le _);refine⟨v', w', hr,h2,h3,λ k hk => ?_⟩;have h63' : n+m<=9223372036854775807:=by simp only[maxLen]at h63;omega
 rcases hown.2 with ⟨rfl,rfl⟩|⟨g,cap,cur,rfl,hbg,hg,hnc,hcm,hcs,htake⟩
 ·
  by_cases hm0:m=0
  ·rw[(h4.2 ⟨rfl,hm0⟩)]at hk;cases hk
  ·
   have hr2:=run_append_nil (P:=P) w t ty e i z ht hi hz a m c news hl hnews (by omega) (by omega) (by simp only[Nat.zero_add]at hbytes;omega)
   rw[hr]at hr2
   cases hr2
   simp[Value.ownBlock]at hk;exact .inr (by omega)
 ·
  by_cases hroom:n+m<=cap
  ·
   obtain⟨w2,hr2,_⟩:=run_append_fits (P:=P) w 0 t ty e i i.size ht hi rfl g n cap xs hown a m c news hl hnews h1 hroom;rw[hr]at hr2
   cases hr2
   exact .inl hk
  ·
   have holds:∀j u,xs[j]? = some u->w.cell? ((⟨g,0,none⟩:Addr).add j)=some u:=hown.cells (g:=g) rfl;have hr2:=run_append_grow (P:=P) w t ty e i z ht hi hz ⟨g,0,none⟩ n cap xs hown.1 holds a m c news hl hnews (by omega) (by omega) (growslice_fits (by omega) hbytes);rw[hr]at hr2
   cases hr2
   simp[Value.ownBlock]at hk;exact .inr (by omega)
theorem Zgl (t ty e:TypeId) (i:TypeInfo) (ht:P.underlying t=some (.slice e)) (hi:P.info? e=some i) (v:Value) (n cc:Nat) (xs:List Value) (hown:w.ownsRow 0 e i.size v n xs) :
  (Builtin.append_ #[t,t] ty #[v,.slice none 0 cc]).run P w = .ok v w:=by
 rcases hown.2 with ⟨rfl,rfl⟩|⟨g,cap,cur,rfl,_,_,hnc,_⟩
 ·simp[Builtin.append_,run_underlying ht,sizeOf,typeInfo,hi,Builtin.lenOf,Builtin.firstCells]
 ·simp[Builtin.append_,run_underlying ht,sizeOf,typeInfo,hi,Builtin.lenOf,Builtin.firstCells,hnc,storeCells]
theorem ZfM (hm:Mem P B ρ Z (look ob) w) {t ty e:TypeId} {i:TypeInfo} {z:Value} {u:Ty} (ht:P.underlying t=some (.slice e)) (hi:P.info? e=some i) (hz:i.zero=some z) (hzs:z.cells.size=i.size) (hsz:i.size=u.size) {m:Bool}
  {v vx:Value} {xs ys:List u.den} {inner:List Value} {c0 c:List Nat} {Fs0:Nat->Nat->Prop} (hown:w.ownsRow 0 e u.size v xs.length inner) (hE0:Els ρ Z w m u xs inner c0 Fs0) (hc0:Alive ob c0) (hc:Alive ob c) (hd:∀T∈c0,T ∉ c)
  (hb:∀k,v.ownBlock=some k->Of ρ c0 k) (hbs:∀j k,Fs0 j k->v.ownBlock≠some k) (hx:Adds ρ Z w m u vx ys c) (hlim:(xs.length+ys.length)*i.bytes<=140737488355328) (hmax:xs.length+ys.length<=maxLen) {n:Nat} (hn : ρ n=none) :
  Gives P (Builtin.append_ #[t,t] ty #[v,vx]) w (Done P B ρ Z ob w ⟨.lf (.own n),[(n,.row e m u (xs++ys))],c0++c⟩):=by
 have hal:Alive ob (c0++c):=λ T hT=>(List.mem_append.1 hT).elim (hc0 T) (hc T)
 have hnn:n ∉ c0++c:=λ hin=>Zel hm hn (hal n hin)
 have l0:∀k,Of ρ c0 k->Of ρ (c0++c) k:=λ k ⟨T,z,h1,h2⟩=>⟨T,z,List.mem_append_left _ h1,h2⟩
 rcases hx with ⟨cc,rfl,rfl⟩|⟨ad,cc,news,Fs,rfl,hE,hcells⟩
 ·
  refine⟨v,w,Zgl t ty e i ht hi v xs.length cc inner (by rw[hsz];exact hown),?_⟩
  rw[List.append_nil];exact ZcL hm hn rfl hal hnn hown (λ k hk => .inl (l0 k (hb k hk))) rfl rfl rfl (Nat.le_refl _) (λ _ _ _=>rfl) Fs0 hE0.el (λ j k hk=>⟨l0 k (hE0.sub j k hk),hbs j k hk⟩) hE0.dis
 ·
  obtain⟨v', w', hr,h2,h3,h4⟩:=Zhy (P:=P) t ty e i z ht hi hz hzs (by rw[hsz];exact ZcF u) v xs.length inner (by rw[hsz];exact hown) ad ys.length cc news (by rw[hE.len,hsz]) hcells hE.one hmax hlim
  refine⟨v', w', hr,?_⟩;have hEE:=Els.append hm hE0 hE hc0 hc hd;have hlen:xs.length+ys.length=(xs++ys).length:=List.length_append.symm;rw[hsz,hlen]at h2;have hold:∀k,k < w.heap.size->v.ownBlock≠some k->w'.heap[k]? = w.heap[k]? := λ k hk hne=>h3.block k hk (λ e=>hne e.symm)
  have hnb:∀j k,(if j < xs.length then Fs0 j k else Fs (j - xs.length) k)->v.ownBlock≠some k:=λ j k hk he=>by
   by_cases hj:j < xs.length
   ·rw[if_pos hj]at hk;exact hbs j k hk he
   ·rw[if_neg hj]at hk;exact Of.sep hm hc0 hc hd (hb k he) (hE.sub _ k hk)
  have hlt:∀j k,(if j < xs.length then Fs0 j k else Fs (j - xs.length) k)->k < w.heap.size:=λ j k hk=>(hm.zsep k ((hEE.sub j k hk).own hal)).2
  refine ZcL hm hn rfl hal hnn h2 (λ k hk=>(h4 k hk).imp (λ h=>l0 k (hb k h)) id) h3.os h3.tape h3.output h3.size (λ k hk hno=>hold k hk λ he=>hno (l0 k (hb k he))) _ (λ j p hp=>Rep.imp u (hEE.el j p hp) (λ _ h=>h) (λ _ h=>h) (λ k hk=>hold k (hm.zlt k hk) λ he=>(hm.zsep k ((hb k he).own hc0)).1 hk) λ k hk=>hold k (hlt j k hk) (hnb j k hk))
   (λ j k hk=>⟨hEE.sub j k hk,λ he => ?_⟩) hEE.dis
  rcases h4 k he with h5|h5
  ·exact hnb j k hk h5
  ·have:=hlt j k hk;omega
theorem Zhj (hm:Mem P B ρ Z (look ob) w) {E:Env} (hE:TtOk P E.tt) {nx:Nat} {m:Bool} {t ty:TypeId} {s x:AV} {vs vx:Value} (h:(Zi4 E nx m t s x).run ob KK nd=some r) (hs:AR P B ρ Z w s vs) (hx:AR P B ρ Z w x vx):SaysF P B ρ Z ob w KK r nx (Builtin.append_ #[t,t] ty #[vs,vx]):=by
 unfold Zi4 at h
 split at h
 ·
  rename_i i hi
  split at h
  ·
   rename_i e hk
   have hu:P.underlying t=some (.slice e):=by have:=(hE t i hi).kind;rw[hk]at this;exact this
   split at h
   ·
    rename_i ie hie
    rw[ZaO]at h;obtain⟨hc,h⟩:=h;simp only[Bool.and_eq_true,Bool.not_eq_true']at hc;obtain⟨⟨⟨hc1,hc2⟩,hc3⟩,hc4⟩:=hc;have hc1:=Nat.eq_of_beq_eq_true hc1;have hc4:=Nat.eq_of_beq_eq_true hc4;have hb0:0 < ie.bytes:=Nat.pos_of_ne_zero λ h0=>by rw[h0]at hc2;cases hc2
    have hpos:=ZcF ie.ty;obtain⟨info,h1,h2,h3,h4⟩:=(hE e ie hie).info;obtain⟨z,hz,hzc,hzl⟩:=h4 hc4 (by omega);have hzsz:z.cells.size=info.size:=by have h5:=(ZbW (P:=P) (B:=B) (ρ := ρ) (Z:=Z) (w:=w) hzc).1.len;rw[Array.length_toList,hc4]at h5;rw[h5,h2]
    have hbig:∀n,n<=lim ie.bytes->n*info.bytes<=140737488355328/\n<=maxLen:=λ n hn=>by have h5:n*ie.bytes<=140737488355328:=Nat.le_trans (Nat.mul_le_mul_right _ hn) (Nat.div_mul_le_self _ _);have h6:n*1<=n*ie.bytes:=Nat.mul_le_mul_left _ hb0;exact⟨by rw[h3];exact h5,by simp only[maxLen];omega⟩
    split at h
    ·
     cases hs
     obtain⟨ys,c,nd', h,hal,hadd⟩:=Zeg hm h hx;rw[ZZ]at h;obtain⟨hlim,h⟩:=h;refine⟨_,nd', h,λ hnx => ?_⟩;have:=ZfM (P:=P) (ty:=ty) hm (u:=ie.ty) hu h1 hz hzsz (by rw[h2,hc1]) (m:=m) (v := .slice none 0 0) (xs:=[]) (inner:=[]) (c0:=[]) (Fs0:=λ _ _=>False) (World.ownsRow_nil w 0 e ie.ty.size) Els.nil (λ _ h=>by cases h) hal (λ _ h=>by cases h) (λ k hk=>by cases hk) (λ _ _ h=>h.elim) hadd (by rw[List.length_nil,Nat.zero_add];exact(hbig _ hlim).1) (by rw[List.length_nil,Nat.zero_add];exact(hbig _ hlim).2) (hnx nx (Nat.le_refl _) (by simp));exact this
    ·
     rename_i T
     rw[Zbu]at h;obtain⟨o,ho,h⟩:=h
     split at h
     ·
      rename_i e' m' t' xs
      rw[ZaO]at h;obtain⟨he', h⟩:=h;obtain rfl:=Nat.eq_of_beq_eq_true he'
      cases he:Ty.eq? t' ie.ty with
      | none=>rw[he]at h;cases h
      | some hh =>
       rw[he]at h;obtain⟨hh⟩:=hh;subst hh;obtain⟨ys,c,nd', h,hal,hadd⟩:=Zeg hm h hx;rw[ZaO,ZZ]at h;obtain⟨hTc,hlim,h⟩:=h;simp only[Bool.not_eq_true', List.contains_eq_mem,decide_eq_false_iff_not]at hTc;refine⟨_,nd', h,λ hnx => ?_⟩;obtain⟨zr,hzr,hrow⟩:=hm.obj T _ ho;obtain⟨z', hz', rfl,_⟩:=hs;rw[hzr]at hz'
       cases hz'
       obtain⟨inner,Fs,hown,hb,hEl,hsub⟩:=Zjl hzr hrow;have hlim:xs.length+ys.length<=lim ie.bytes:=hlim;have:=ZfM (P:=P) (ty:=ty) hm (u:=ie.ty) hu h1 hz hzsz (by rw[h2,hc1]) (c0:=[T]) hown hEl (λ U hU=>by rw[List.mem_singleton.1 hU,ho];rfl) hal (λ U hU=>by rw[List.mem_singleton.1 hU];exact hTc) (λ k hk=>⟨T,zr,List.mem_singleton.2 rfl,hzr,hb k hk⟩) (λ j k hk=>(hsub j k hk).2) hadd (hbig _ hlim).1 (hbig _ hlim).2 (hnx nx (Nat.le_refl _) (by simp));exact this
     ·cases h
    ·cases h
   ·cases h
  ·cases h
 ·cases h
theorem ZlE {place:Nat->Option (Nat×Nat)} {cells:Array Value} {j off sz:Nat} {v:Value} {rest:List (Nat×Value)} (hp:place j=some (off,sz)) (hv:v.cells.size=sz) (hle:off+sz<=cells.size) :
  Instr.fill place cells ((j,v) :: rest)=Instr.fill place (cells.toList.take off++v.cells.toList++cells.toList.drop (off+v.cells.toList.length)).toArray rest:=by
 have hs:v.cells.size=sz:=hv;have hfold:v.cells.zipIdx.foldl (λ cs (x:Value×Nat)=>cs.setIfInBounds (off+x.2) x.1) cells=(cells.toList.take off++v.cells.toList++cells.toList.drop (off+v.cells.toList.length)).toArray:=by
  obtain⟨f1,f2⟩:=Great.foldl_set off v.cells.toList 0 cells;have e0:v.cells.zipIdx.foldl (λ cs (x:Value×Nat)=>cs.setIfInBounds (off+x.2) x.1) cells=(v.cells.toList.zipIdx 0).foldl (λ cs (x:Value×Nat)=>cs.setIfInBounds (off+x.2) x.1) cells:=by rw[<-Array.foldl_toList,Array.toList_zipIdx]
  rw[e0]
  apply Array.ext_getElem?
  intro k;rw[f2 k];simp only[Nat.add_zero,Nat.zero_add,List.getElem?_toArray];have hl:v.cells.toList.length=sz:=by rw[Array.length_toList,hs]
  by_cases hk:off<=k/\k < off+v.cells.toList.length/\k < cells.size
  ·rw[if_pos hk,List.append_assoc,List.getElem?_append_right (by rw[List.length_take];omega),List.length_take,Nat.min_eq_left (by rw[Array.length_toList];omega),List.getElem?_append_left (by omega)]
  ·
   rw[if_neg hk]
   by_cases h1:k < off
   ·
    rw[List.append_assoc,List.getElem?_append_left (by rw[List.length_take,Array.length_toList];omega),List.getElem?_take,if_pos h1]
    simp
   ·
    have hcl:cells.toList.length=cells.size:=Array.length_toList;have h2:off+v.cells.toList.length<=k:=by omega
    rw[List.getElem?_append_right (by rw[List.length_append,List.length_take];omega),List.length_append,List.length_take,Nat.min_eq_left (by omega),List.getElem?_drop]
    rw[show off+v.cells.toList.length+(k - (off+v.cells.toList.length))=k by omega];simp
 show(match place j with|none=>none|some (off,size)=>if v.cells.size≠size || off+v.cells.size > cells.size then none else Instr.fill place (v.cells.zipIdx.foldl (λ cs (c,j)=>cs.setIfInBounds (off+j) c) cells) rest)=_;rw[hp];have h2:(decide (v.cells.size≠sz) || decide (off+v.cells.size > cells.size))=false:=by rw[hs];simp;omega
 simp only[h2,Bool.false_eq_true,if_false];rw[<-hfold]
theorem Zew (hm:Mem P B ρ Z (look ob) w) {E:Env} (hE:TtOk P E.tt) {f:Operand->Option AV} {a:Act} (hf:∀x av,f x=some av->AR P B ρ Z w av (a.eval x)) {fs:List (Nat×TypeId)} {place:Nat->Option (Nat×Nat)}
  (hpl:∀j o ft fi,nthF fs j=some (o,ft)->lk ft E.tt=some fi->place j=some (o,fi.size)):∀(parts:List (Nat×Operand)) (cells:List Lf) (vs:List Value) (nd:List Nat),(Zej E f fs parts cells).run ob KK nd=some r->LRs P B ρ Z w cells vs ->
  ∃e nd', KK e nd' = some r/\∃cs,Instr.fill place vs.toArray (parts.map λ p=>(p.1,a.eval p.2))=some cs/\Done P B ρ Z ob w e (.agg cs) w
 | [],cells,vs,nd,h,hl=>⟨_,nd,h,vs.toArray,rfl,ZcD hm ⟨vs,rfl,hl⟩⟩
 | (j,x) :: r', cells,vs,nd,h,hl=>by
  unfold Zej at h
  split at h
  ·
   rename_i o ft v hn hv
   split at h
   ·
    rename_i fi ls hfi hls
    rw[ZaO]at h;obtain⟨hc,h⟩:=h;simp only[Bool.and_eq_true]at hc;have hc1:=Nat.eq_of_beq_eq_true hc.1;have hc2:=Nat.le_of_ble_eq_true hc.2;obtain⟨hl2,hok⟩:=Zdc hls (hf x v hv);obtain⟨e,nd', h1,cs,h2,h3⟩:=Zew hm hE hf hpl r' _ _ nd h (ZgR hl hl2);refine⟨e,nd', h1,cs,?_,h3⟩;rw[List.map_cons,ZlE (hpl j o ft fi hn hfi) (by rw[<-hc1,<-hl2.len];simp) (by rw[List.size_toArray,hl.len];omega)];exact h2
   ·cases h
  ·cases h
theorem ZgJ {E:Env} (hE:TtOk P E.tt):∀(l:List Field) (places:List (Nat×Nat)),l.mapM (λ f=>(P.info? f.type).map λ i=>(f.offset,i.size))=some places->∀(j:Nat) (o:Nat) (ft:TypeId) (fi:TI),(l.map λ f=>(f.offset,f.type))[j]? = some (o,ft)->lk ft E.tt=some fi->places[j]? = some (o,fi.size)
 | [],places,h,j,o,ft,fi,hj,hfi=>by simp at hj
 | f :: l,places,h,j,o,ft,fi,hj,hfi=>by
  simp only[List.mapM_cons,Option.bind_eq_bind,Option.pure_def]at h
  cases hi:P.info? f.type with
  | none=>simp[hi]at h
  | some i =>
   cases hr:l.mapM (λ f=>(P.info? f.type).map λ i=>(f.offset,i.size))with
   | none=>simp[hi,hr]at h
   | some rest =>
    simp[hi,hr]at h;subst h
    cases j with
    | zero =>
     simp only[List.map_cons,List.getElem?_cons_zero,Option.some.injEq,Prod.mk.injEq]at hj;obtain⟨rfl,rfl⟩:=hj;obtain⟨info,h1,h2,_⟩:=(hE f.type fi hfi).info;rw[hi]at h1
     cases h1
     rw[h2];rfl
    | succ j =>
     simp only[List.map_cons,List.getElem?_cons_succ]at hj ⊢;exact ZgJ hE l rest hr j o ft fi hj hfi
theorem Zfo (hm:Mem P B ρ Z (look ob) w) {E:Env} (hE:TtOk P E.tt) {f:Operand->Option AV} {a:Act} (hf:∀x av,f x=some av->AR P B ρ Z w av (a.eval x)) {t:TypeId} {parts:List (Nat×Operand)} (h:(Zie E f t parts).run ob KK nd=some r) :
  Says P B ρ Z ob w KK r (Instr.build t (parts.map λ p=>(p.1,a.eval p.2)).toArray):=by
 unfold Zie at h
 split at h
 ·
  rename_i i hi
  split at h
  ·
   rename_i fs hk
   rw[ZaO]at h;obtain⟨hc,h⟩:=h;simp only[Bool.and_eq_true,Bool.not_eq_true']at hc;have hti:=hE t i hi;obtain⟨info,h1,h2,h3,h4⟩:=hti.info;obtain⟨z,hz,hzc,_⟩:=h4 (Nat.eq_of_beq_eq_true hc.1) (λ h0=>by rw[h0]at hc;cases hc.2);have hK:=hti.kind;rw[hk]at hK;obtain⟨fields,hu,hmap,places,hpl⟩:=hK;obtain⟨hl,hok⟩:=ZbW (P:=P) (B:=B) (ρ := ρ) (Z:=Z) (w:=w) hzc;obtain⟨e,nd', he,cs,hfill,hd⟩:=Zew hm hE hf (place:=(places.toArray[·]?)) (λ j o ft fi hn hfi=>by
    rw[Zhh,<-hmap]at hn
    simpa using ZgJ hE fields.toList places hpl j o ft fi hn hfi) parts _ _ nd h hl
   refine⟨e,nd', he,_,_,run_build w t _ cs ?_,hd⟩;unfold Program.built;rw[h1,hu];simp only[hz,hpl]
   simpa using hfill
  ·cases h
 ·cases h
theorem Zjd (hm:Mem P B ρ Z (look ob) w) {f:Operand->Option AV} {a:Act} (hf:∀x av,f x=some av->AR P B ρ Z w av (a.eval x)) {c x y:Operand} (h:(pPick f c x y).run ob KK nd=some r) :
  Says P B ρ Z ob w KK r (do pure (if <-asBool (a.eval c)then a.eval x else a.eval y)):=by
 unfold pPick at h
 split at h
 ·
  rename_i n p d hc
  have hb:=hf c _ hc;have hb:a.eval c = .bool (bval n p d):=hb;have go:∀(o:Operand),(okO (f o)).run ob KK nd=some r->(bif bval n p d then a.eval x else a.eval y)=a.eval o->Says P B ρ Z ob w KK r (do pure (if <-asBool (a.eval c)then a.eval x else a.eval y)):=λ o ho he=>by
   cases hfo:f o with
   | none=>rw[hfo]at ho;cases ho
   | some av =>
    rw[hfo]at ho;refine Z7 hm ho (v:=a.eval o) ?_ (hf o av hfo);rw[hb,<-he]
    cases bval n p d <;> simp[asBool]
  rw[run_test]at h;unfold bval at go;rcases h with ⟨hp,h⟩|⟨hp,h⟩
  ·
   cases n with
   | true=>exact go y h (by simp[hp])
   | false=>exact go x h (by simp[hp])
  ·
   cases n with
   | true=>exact go x h (by simp[hp])
   | false=>exact go y h (by simp[hp])
 ·cases h
theorem Zfh {f:Operand->Option AV} {a:Act} (hf:∀x av,f x=some av->AR P B ρ Z w av (a.eval x)):∀(xs:List Operand) (l:List (Nat×Nat)),ZfO f xs=some l->CapsR ρ l (xs.map a.eval)
 | [],l,h=>by cases h;rfl
 | x :: r,l,h=>by
  unfold ZfO at h
  split at h
  ·
   rename_i T off l' h1 h2
   cases h
   exact⟨_,_,rfl,hf x _ h1,Zfh hf r l' h2⟩
  ·cases h
theorem Zi9 (hm:Mem P B ρ Z (look ob) w) {f:Operand->Option AV} {a:Act} (hf:∀x av,f x=some av->AR P B ρ Z w av (a.eval x)) {g:FuncId} {first caps:List Operand} (h:(pFunc f g first caps).run ob KK nd=some r) :
  Says P B ρ Z ob w KK r (Instr.makeFunc (.func g) (first.map a.eval).toArray (caps.map a.eval).toArray):=by
 unfold pFunc at h
 split at h
 ·
  rename_i l hl
  exact Z7 hm h (v := .func (.func g) #[] (caps.map a.eval).toArray) rfl ⟨_,rfl,Zfh hf _ _ hl⟩
 ·cases h
end
section
variable (P:Program) (B Z:Nat->Prop) (w:World)
def LSR:(s:LS)->s.den->Value->(Nat->Prop)->Prop
 | .v t,x,v,_=>Rep Z w false t x [v] λ _=>False
 | .own e m t,xs,v,F=>Zch w e t.size (Rep Z w m t) v xs F
 | .fn asx r,f,v,_=>FnR P (λ k=>Z k\/B k) w asx r f v
def LSRs:(ss:List LS)->lsd ss->List Value->(Nat->Prop)->Prop
 | [],_,vs,_=>vs=[]
 | s :: ss,x,vs,F=>∃v vs' F0 F1,vs=v :: vs' /\ LSR P B Z w s x.1 v F0/\LSRs ss x.2 vs' F1/\(∀k,F0 k->F k)/\(∀k,F1 k->F k)/\∀k,F0 k->¬ F1 k
def ASR:(a:ASh)->lsd a.flat->Value->(Nat->Prop)->Prop
 | .one s,x,v,F=>LSR P B Z w s x.1 v F
 | .agg ss,x,v,F=>∃vs,v = .agg vs.toArray/\LSRs P B Z w ss x vs F
 | .eat e m t,x,v,F=>LSR P B Z w (.own e m t) x.1 v F
 | .non,x,v,F=>v = .slice none 0 0
 | .ptr ro t ss,x,v,F=>∃g vs F', v = .pointer (some ⟨g,0,none⟩)/\w.heap[g]? = some (.cells vs.toArray t (0,0))/\LSRs P B Z w ss x vs F' /\ (match ro with
  | true=>B g
  | false=>F g/\¬ F' g/\∀k,F' k->F k)
def ASRs:(ins:List ASh)->lsd (flats ins)->List Value->(Nat->Prop)->Prop
 | [],_,vs,_=>vs=[]
 | a :: r,x,vs,F=>∃v vs' F0 F1,vs=v :: vs' /\ ASR P B Z w a (Zaf a.flat (flats r) x).1 v F0/\ASRs r (Zaf a.flat (flats r) x).2 vs' F1/\(∀k,F0 k->F k)/\(∀k,F1 k->F k)/\∀k,F0 k->¬ F1 k
def IoLS:(s:LS)->Value->lsd s.back->(Nat->Prop)->Prop
 | .own e m t,v,x,F=>Zch w e t.size (Rep Z w m t) v x.1 F
 | .v _,_,_,_=>True
 | .fn _ _,_,_,_=>True
def IoLSs:(ss:List LS)->List Value->lsd (backs ss)->(Nat->Prop)->Prop
 | [],_,_,_=>True
 | s :: ss,vs,x,F=>∃v vs' F0 F1,vs=v :: vs' /\ IoLS Z w s v (Zaf s.back (backs ss) x).1 F0/\IoLSs ss vs' (Zaf s.back (backs ss) x).2 F1/\(∀k,F0 k->F k)/\(∀k,F1 k->F k)/\∀k,F0 k->¬ F1 k
def IoR:(a:ASh)->Value->lsd a.io->(Nat->Prop)->Prop
 | .one s,v,x,F=>IoLS Z w s v x F
 | .agg ss,v,x,F=>∃vs,v = .agg vs.toArray/\IoLSs Z w ss vs x F
 | .eat _ _ _,_,_,_=>True
 | .non,_,_,_=>True
 | .ptr true _ _,_,_,_=>True
 | .ptr false t ss,v,x,F=>∃g vs F', v = .pointer (some ⟨g,0,none⟩)/\w.heap[g]? = some (.cells vs.toArray t (0,0))/\LSRs P B Z w ss x vs F' /\ F g/\¬ F' g/\∀k,F' k->F k
def IoRs:(ins:List ASh)->List Value->lsd (ios ins)->(Nat->Prop)->Prop
 | [],_,_,_=>True
 | a :: r,vs,x,F=>∃v vs' F0 F1,vs=v :: vs' /\ IoR P B Z w a v (Zaf a.io (ios r) x).1 F0/\IoRs r vs' (Zaf a.io (ios r) x).2 F1/\(∀k,F0 k->F k)/\(∀k,F1 k->F k)/\∀k,F0 k->¬ F1 k
def outV:List Value->Value
 | [v]=>v
 | vs => .tuple vs.toArray
end
structure PostR (P:Program) (B Z S:Nat->Prop) (w:World) (ins outs:List ASh) (vs:List Value) (y:lsd (flats outs)) (z:lsd (ios ins)) (u:Value) (w' : World) (Z' Fi Fo:Nat->Prop):Prop where
 io:IoRs P B Z' w' ins vs z Fi
 out:∃us,u=outV us/\ASRs P B Z' w' outs y us Fo
 dis:∀k,Fi k->¬ Fo k
 new:∀k,Fi k\/Fo k->(S k\/w.heap.size<=k)/\k < w'.heap.size/\¬ Z' k
 zm:∀k,Z k->Z' k
 zn:∀k,Z' k->(Z k\/S k\/w.heap.size<=k)/\k < w'.heap.size
 os:w'.os=w.os
 tape:w'.tape=w.tape
 output:w'.output=w.output
 size:w.heap.size<=w'.heap.size
 old:∀k,k < w.heap.size->¬ S k->w'.heap[k]? = w.heap[k]?
def Valid (P:Program) (g:FuncId) (c:Con):Prop:=Callable P g/\∀(x:lsd (flats c.ins)) (r:c.R),c.f x=some r->∀(Z B S:Nat->Prop) (w:World) (vs:List Value),
 ASRs P B Z w c.ins x vs S->(∀k,S k->¬ Z k/\¬ B k/\k < w.heap.size)->(∀k,Z k->k < w.heap.size)->(∀k,B k->k < w.heap.size) ->
 Calls P g vs.toArray w λ e w' => ∃u,e = .returned u/\∃Z' Fi Fo,PostR P B Z S w c.ins c.outs vs (c.dec r).1 (c.dec r).2 u w' Z' Fi Fo
def ZdB (P:Program) (con:List (Nat×Con)):Prop:=∀g c,lk g con=some c->Valid P g c
structure EnvOk (P:Program) (E:Env):Prop where
 tt:TtOk P E.tt
 con:ZdB P E.con
section
variable {P:Program} {B B' Z Z' : Nat->Prop} {w w' : World}
theorem LSR.mono {s:LS} {x:s.den} {v:Value} {F F' : Nat->Prop} (h:LSR P B Z w s x v F) (hZ:∀k,Z k->Z' k) (hB:∀k,B k->B' k) (hF:∀k,F k->F' k):LSR P B' Z' w s x v F' := by
 cases s with
 | v t=>exact Rep.imp t h hZ (λ _ h=>h) (λ _ _=>rfl) (λ _ _=>rfl)
 | own e m t=>exact Zch.imp h hF (λ _ _=>rfl) λ p cs G _ hp=>Rep.imp t hp hZ (λ _ h=>h) (λ _ _=>rfl) (λ _ _=>rfl)
 | fn asx r=>exact FnR.fut h (λ k hk=>hk.imp (hZ k) (hB k)) λ _ _=>rfl
theorem LSRs.mono {F F' : Nat->Prop} (hZ:∀k,Z k->Z' k) (hB:∀k,B k->B' k) (hF:∀k,F k->F' k):∀{ss:List LS} {x:lsd ss} {vs:List Value},LSRs P B Z w ss x vs F->LSRs P B' Z' w ss x vs F'
 | [],_,_,h=>h
 | s :: ss,x,_,⟨v,vs', F0,F1,h1,h2,h3,h4,h5,h6⟩=>⟨v,vs', F0,F1,h1,h2.mono hZ hB λ _ h=>h,LSRs.mono hZ hB (λ _ h=>h) h3,λ k hk=>hF k (h4 k hk),λ k hk=>hF k (h5 k hk),h6⟩
theorem ASR.mono {F F' : Nat->Prop} (hZ:∀k,Z k->Z' k) (hB:∀k,B k->B' k) (hF:∀k,F k->F' k):∀{a:ASh} {x:lsd a.flat} {v:Value},ASR P B Z w a x v F->ASR P B' Z' w a x v F'
 | .one s,x,v,h=>LSR.mono h hZ hB hF
 | .agg ss,x,v,⟨vs,h1,h2⟩=>⟨vs,h1,LSRs.mono hZ hB hF h2⟩
 | .eat e m t,x,v,h=>LSR.mono (P:=P) (s := .own e m t) h hZ hB hF
 | .non,x,v,h=>h
 | .ptr true t ss,x,v,⟨g,vs,F0,h1,h2,h3,h4⟩=>⟨g,vs,F0,h1,h2,LSRs.mono hZ hB (λ _ h=>h) h3,hB g h4⟩
 | .ptr false t ss,x,v,⟨g,vs,F0,h1,h2,h3,h4,h5,h6⟩=>⟨g,vs,F0,h1,h2,LSRs.mono hZ hB (λ _ h=>h) h3,hF g h4,h5,λ k hk=>hF k (h6 k hk)⟩
theorem ASRs.mono {F F' : Nat->Prop} (hZ:∀k,Z k->Z' k) (hB:∀k,B k->B' k) (hF:∀k,F k->F' k):∀{ins:List ASh} {x:lsd (flats ins)} {vs:List Value},ASRs P B Z w ins x vs F->ASRs P B' Z' w ins x vs F'
 | [],_,_,h=>h
 | a :: r,x,_,⟨v,vs', F0,F1,h1,h2,h3,h4,h5,h6⟩=>⟨v,vs', F0,F1,h1,h2.mono hZ hB λ _ h=>h,ASRs.mono hZ hB (λ _ h=>h) h3,λ k hk=>hF k (h4 k hk),λ k hk=>hF k (h5 k hk),h6⟩
theorem Zbv:∀(a b:List LS) (x:lsd a) (y:lsd b),Zaf a b (ZbP a b x y)=(x,y)
 | [],b,x,y=>rfl
 | s :: a,b,x,y=>by show((x.1,(Zaf a b (ZbP a b x.2 y)).1),(Zaf a b (ZbP a b x.2 y)).2)=(x,y);rw[Zbv a b x.2 y]
end
section
variable {P:Program} {B Z:Nat->Prop} {ρ : Rz} {ob:List (Nat×Ob)} {w:World} {γ β : Type} {KK : γ -> List Nat->Option β} {nd:List Nat} {r : β}
abbrev Zc (Z:Nat->Prop) (ρ : Rz) (c:List Nat):Nat->Prop:=λ k=>Z k\/Of ρ c k
theorem Of.left {a b:List Nat} {k:Nat} (h:Of ρ a k):Of ρ (a++b) k:=let ⟨T,z,h1,h2⟩:=h;⟨T,z,List.mem_append_left _ h1,h2⟩
theorem Of.right {a b:List Nat} {k:Nat} (h:Of ρ b k):Of ρ (a++b) k:=let ⟨T,z,h1,h2⟩:=h;⟨T,z,List.mem_append_right _ h1,h2⟩
theorem Zd1 (hm:Mem P B ρ Z (look ob) w) {q:Nat} {t:Ty} {l:Lf} {v:Value} {K:t.den->List Nat->Pg γ} (h:(toDen q t [l] λ x r c=>chk r.isEmpty (K x c)).run ob KK nd=some r) (hl:LR P B ρ Z w l v) :
  ∃x c nd', (K x c).run ob KK nd' = some r/\Tells ρ Z w q t x [v] c/\Alive ob c:=by
 obtain⟨x,ls', c,nd', cs,vs', h,hvs,hl', htell,hal,hcl⟩:=Zdz hm _ _ _ _ _ h (show LRs P B ρ Z w [l] [v]from⟨v,[],rfl,hl,rfl⟩);rw[ZaO]at h;obtain⟨he,h⟩:=h;have hls' : ls' = []:=by simpa using he
 subst hls'
 cases hl'
 rw[List.append_nil]at hvs;subst hvs;exact⟨x,c,nd', h,htell,hal⟩
theorem FnR.comp {Z:Nat->Prop} {asx asx' : List Ty} {r r' : Ty} {f:dens asx' -> Option r'.den} {v:Value} (h:asx=asx') (h' : r' = r) (hf:FnR P Z w asx' r' f v):FnR P Z w asx r (λ x=>(f (h ▸ x)).map λ z=>h' ▸ z) v:=by
 subst h;subst h';have e:(λ x=>(f x).map λ z=>z)=f:=by
  funext x
  cases f x <;> rfl
 show FnR P Z w asx r' (λ x=>(f x).map λ z=>z) v;rw[e];exact hf
theorem Zct (hm:Mem P B ρ Z (look ob) w):∀(ss:List LS) (ls:List Lf) (vs:List Value) (nd:List Nat) (K:lsd ss->List Nat->Pg γ),(Zcs ss ls K).run ob KK nd=some r->LRs P B ρ Z w ls vs ->
  ∃x c nd', (K x c).run ob KK nd' = some r/\LSRs P B (Zc Z ρ c) w ss x vs (λ _=>False)/\Alive ob c
 | [],[],vs,nd,K,h,hl=>⟨(),[],nd,h,hl,λ _ h=>by cases h⟩
 | [],_ :: _,vs,nd,K,h,hl=>by cases h
 | .v t :: ss,[],vs,nd,K,h,hl=>by cases h
 | .fn asx t :: ss,[],vs,nd,K,h,hl=>by cases h
 | .own e m t :: ss,[],vs,nd,K,h,hl=>by cases h
 | .own e m t :: ss,_ :: _,vs,nd,K,h,hl=>by cases h
 | .v t :: ss,l :: ls,vs,nd,K,h,⟨v,vs', e1,h2,h3⟩=>by subst e1;obtain⟨x,c,nd1,h,htell,hal⟩:=Zd1 hm h h2;obtain⟨y,c', nd2,h,hs,hal'⟩:=Zct hm ss ls vs' nd1 _ h h3;refine⟨(x,y),c++c', nd2,h,⟨v,vs', λ _=>False,λ _=>False,rfl,Rep.imp t htell (λ k hk=>hk.imp id Of.left) (λ _ h=>h) (λ _ _=>rfl) (λ _ _=>rfl),LSRs.mono (λ k hk=>hk.imp id Of.right) (λ _ h=>h) (λ _ h=>h) hs,λ _ h=>h,λ _ h=>h,λ _ h=>h.elim⟩,λ T hT=>(List.mem_append.1 hT).elim (hal T) (hal' T)⟩
 | .fn asx t :: ss,l :: ls,vs,nd,K,h,⟨v,vs', e1,h2,h3⟩=>by
  subst e1
  cases l <;> first|(cases h;done)|skip
  rename_i asx' t' f
  simp only[Zcs]at h
  split at h
  ·
   rename_i e1 e2 he1 he2
   obtain⟨y,c', nd2,h,hs,hal'⟩:=Zct hm ss ls vs' nd _ h h3;refine⟨(_,y),c', nd2,h,⟨v,vs', λ _=>False,λ _=>False,rfl,?_,hs,λ _ h=>h,λ _ h=>h,λ _ h=>h.elim⟩,hal'⟩;exact FnR.fut (FnR.comp e1.down e2.down h2) (λ k hk=>hk.imp .inl id) λ _ _=>rfl
  ·cases h
theorem ZcR:∀(ss:List LS) (ls:List Lf) (nd:List Nat) (K:lsd ss->List Nat->Pg γ),(Zcs ss ls K).run ob KK nd=some r->∀s∈ss,∀e m u,s≠LS.own e m u
 | [],_,_,_,_=>λ _ h=>by cases h
 | .own e m t :: ss,[],nd,K,h=>by cases h
 | .own e m t :: ss,_ :: _,nd,K,h=>by cases h
 | .v t :: ss,[],nd,K,h=>by cases h
 | .fn asx t :: ss,[],nd,K,h=>by cases h
 | .v t :: ss,l :: ls,nd,K,h=>λ s hs e m u he=>by
  rcases List.mem_cons.1 hs with rfl|hs
  ·cases he
  ·
   have key:∀(t:Ty) (ls' : List Lf) (nd:List Nat) (K' : t.den->List Lf->List Nat->Pg γ),(toDen 2 t ls' K').run ob KK nd=some r->∃x l' c nd', (K' x l' c).run ob KK nd' = some r:=by
    intro t
    induction t with
    | int k =>
     intro ls' nd K' h;rcases ls' with _|⟨l,ls'⟩
     ·cases h
     ·
      cases l <;> first|(cases h;done)|skip
      simp only[toDen,ZaO]at h;exact⟨_,_,_,_,h.2⟩
    | bool =>
     intro ls' nd K' h;rcases ls' with _|⟨l,ls'⟩
     ·cases h
     ·
      cases l <;> first|(cases h;done)|skip
      exact⟨_,_,_,_,h⟩
    | str =>
     intro ls' nd K' h;rcases ls' with _|⟨l,ls'⟩
     ·cases h
     ·
      cases l <;> first|(cases h;done)|skip
      exact⟨_,_,_,_,h⟩
    | raw =>
     intro ls' nd K' h;rcases ls' with _|⟨l,ls'⟩
     ·cases h
     ·cases l <;> first|(cases h;done)|exact⟨_,_,_,_,h⟩
    | sl e t _ =>
     intro ls' nd K' h;rcases ls' with _|⟨l,ls'⟩
     ·cases h
     ·
      cases l <;> first|(cases h;done)|skip
      ·
       simp only[toDen,ZaO]at h
       split at h
       ·exact⟨_,_,_,_,(Zd8 h.2).2⟩
       ·cases h.2
      ·exact⟨_,_,_,_,h⟩
      ·
       simp only[toDen,ZaO,Zbu]at h;obtain⟨_,o,_,h⟩:=h
       cases o with
       | box _ _ _=>cases h
       | hole _ _ _ _=>cases h
       | row _ _ _ _ =>
        simp only[ZaO]at h
        split at h
        ·exact⟨_,_,_,_,(Zd8 h.2).2⟩
        ·cases h.2
    | pr a b iha ihb =>
     intro ls' nd K' h;obtain⟨x,l', c,nd', h⟩:=iha _ _ _ h;exact ihb _ _ _ h |>.elim λ y hy=>hy.elim λ l2 hy=>hy.elim λ c2 hy=>hy.elim λ n2 hy=>⟨(x,y),l2,_,n2,hy⟩
   obtain⟨x,l', c,nd', h⟩:=key t _ _ _ h;rw[ZaO]at h;exact ZcR ss ls nd' _ h.2 s hs e m u he
 | .fn asx t :: ss,l :: ls,nd,K,h=>λ s hs e m u he=>by
  rcases List.mem_cons.1 hs with rfl|hs
  ·cases he
  ·
   cases l <;> first|(cases h;done)|skip
   simp only[Zcs]at h
   split at h
   ·exact ZcR ss ls nd _ h s hs e m u he
   ·cases h
theorem Zec (hm:Mem P B ρ Z (look ob) w):∀(ps:List ASh) (caps:List (Nat×Nat)) (vs:List Value) (nd:List Nat) (K:lsd (flats ps)->List Nat->List Nat->Pg γ),(Zft ps caps K).run ob KK nd=some r->CapsR ρ caps vs ->
  ∃x b c nd', (K x b c).run ob KK nd' = some r/\ASRs P (Zc B ρ b) (Zc Z ρ c) w ps x vs (λ _=>False)/\Alive ob c/\Alive ob b/\(∀a∈ps,∃t ss,a = .ptr true t ss/\∀s∈ss,∀e m u,s≠LS.own e m u)
 | [],[],vs,nd,K,h,hl=>⟨(),[],[],nd,h,hl,(λ _ h=>by cases h),(λ _ h=>by cases h),λ _ h=>by cases h⟩
 | [],_ :: _,vs,nd,K,h,hl=>by cases h
 | .one _ :: _,_,vs,nd,K,h,hl=>by cases h
 | .agg _ :: _,_,vs,nd,K,h,hl=>by cases h
 | .eat _ _ _ :: _,_,vs,nd,K,h,hl=>by cases h
 | .non :: _,_,vs,nd,K,h,hl=>by cases h
 | .ptr false _ _ :: _,_,vs,nd,K,h,hl=>by cases h
 | .ptr true _ _ :: _,[],vs,nd,K,h,hl=>by cases h
 | .ptr true _ _ :: _,(_,_+1) :: _,vs,nd,K,h,hl=>by cases h
 | .ptr true t ss :: ps,(T,0) :: caps,vs,nd,K,h,⟨v,vs', e1,h2,h3⟩=>by
  subst e1;simp only[Zft,Zbu]at h;obtain⟨o,ho,h⟩:=h
  split at h
  ·
   rename_i bt ro cells
   rw[ZaO]at h;obtain⟨hbt,h⟩:=h;obtain rfl:=Nat.eq_of_beq_eq_true hbt;obtain⟨z,hz,g,us,g1,g2,g3,g4,g5,g6⟩:=hm.obj T _ ho;obtain⟨z', g', hz', hg', rfl⟩:=h2;rw[hz]at hz'
   cases hz'
   rw[g1]at hg'
   cases hg'
   have hno:=ZcR ss cells _ _ h;obtain⟨x,c,nd1,h,hs,hal⟩:=Zct hm ss cells us _ _ h g3;obtain⟨y,b,c', nd2,h,hss,hal', halb,hps⟩:=Zec hm ps caps vs' nd1 _ h h3;refine⟨_,T :: b,c++c', nd2,h,⟨.pointer (some ⟨g,0,none⟩),vs', λ _=>False,λ _=>False,rfl,?_,?_,λ _ h=>h,λ _ h=>h,λ _ h=>h.elim⟩,λ U hU=>(List.mem_append.1 hU).elim (hal U) (hal' U),λ U hU => ?_,λ a ha => ?_⟩
   ·
    rw[show Zaf (ASh.ptr true bt ss).flat (flats ps) (ZbP ss (flats ps) x y)=(x,y)from Zbv ss (flats ps) x y];refine⟨g,us,_,rfl,g2,LSRs.mono (λ k hk=>hk.imp id Of.left) (λ k hk => .inl hk) (λ _ h=>h) hs,?_⟩
    cases ro with
    | true=>exact .inl (g6 rfl)
    | false=>exact .inr ⟨T,z,List.mem_cons_self,hz,g5 rfl⟩
   ·rw[show Zaf (ASh.ptr true bt ss).flat (flats ps) (ZbP ss (flats ps) x y)=(x,y)from Zbv ss (flats ps) x y];exact ASRs.mono (λ k hk=>hk.imp id Of.right) (λ k hk=>hk.imp id λ⟨U,zu,h1,h2⟩=>⟨U,zu,List.mem_cons_of_mem _ h1,h2⟩) (λ _ h=>h) hss
   ·
    rcases List.mem_cons.1 hU with rfl|hU
    ·rw[ho];rfl
    ·exact halb U hU
   ·
    rcases List.mem_cons.1 ha with rfl|ha
    ·exact⟨_,_,rfl,hno⟩
    ·exact hps a ha
  ·cases h
end
section
variable {P:Program} {B Z:Nat->Prop} {w w' : World}
theorem LSR.move {s:LS} {x:s.den} {v:Value} {F:Nat->Prop} (h:LSR P B Z w s x v F) (hZ:ZbL Z w w') (hB:ZbL B w w') (hF:ZbL F w w'):LSR P B Z w' s x v F:=by
 cases s with
 | v t=>exact Rep.imp t h (λ _ h=>h) (λ _ h=>h) hZ λ _ h=>h.elim
 | own e m t=>exact Zch.imp h (λ _ h=>h) hF λ p cs G hG hp=>Rep.imp t hp (λ _ h=>h) (λ _ h=>h) hZ λ k hk=>hF k (hG k hk)
 | fn asx r=>exact FnR.fut h (λ _ h=>h) λ k hk=>hk.elim (hZ k) (hB k)
theorem LSRs.move (hZ:ZbL Z w w') (hB:ZbL B w w'):∀{ss:List LS} {x:lsd ss} {vs:List Value} {F:Nat->Prop},ZbL F w w' -> LSRs P B Z w ss x vs F->LSRs P B Z w' ss x vs F
 | [],_,_,_,_,h=>h
 | s :: ss,x,_,F,hF,⟨v,vs', F0,F1,h1,h2,h3,h4,h5,h6⟩=>⟨v,vs', F0,F1,h1,h2.move hZ hB λ k hk=>hF k (h4 k hk),LSRs.move hZ hB (λ k hk=>hF k (h5 k hk)) h3,h4,h5,h6⟩
theorem ASRs.move_ro (hZ:ZbL Z w w') (hB:ZbL B w w'):∀{ps:List ASh} {x:lsd (flats ps)} {vs:List Value},(∀a∈ps,∃t ss,a=ASh.ptr true t ss/\∀s∈ss,∀e m u,s≠LS.own e m u)->ASRs P B Z w ps x vs (λ _=>False)->ASRs P B Z w' ps x vs (λ _=>False)
 | [],_,_,_,h=>h
 | a :: ps,x,_,hp,⟨v,vs', F0,F1,h1,h2,h3,h4,h5,h6⟩=>by
  obtain⟨t,ss,rfl,hn⟩:=hp a List.mem_cons_self;refine⟨v,vs', F0,λ _=>False,h1,?_,ASRs.move_ro hZ hB (λ b hb=>hp b (List.mem_cons_of_mem _ hb)) (ASRs.mono (λ _ h=>h) (λ _ h=>h) h5 h3),h4,λ _ h=>h,λ _ _ h=>h⟩;obtain⟨g,us,F', g1,g2,g3,g4⟩:=h2;have nof:∀(ss:List LS) (x:lsd ss) (us:List Value) (F' : Nat->Prop),(∀s∈ss,∀e m u,s≠LS.own e m u)->LSRs P B Z w ss x us F' -> LSRs P B Z w ss x us λ _=>False:=by
   intro ss
   induction ss with
   | nil=>intro x us F' _ h;exact h
   | cons s ss ih =>
    intro x us F' hs ⟨v,vs', F0,F1,k1,k2,k3,k4,k5,k6⟩;refine⟨v,vs', λ _=>False,λ _=>False,k1,?_,ih _ _ _ (λ s' hs' => hs s' (List.mem_cons_of_mem _ hs')) k3,λ _ h=>h,λ _ h=>h,λ _ h=>h.elim⟩
    cases s with
    | v t=>exact k2
    | own e m t=>exact absurd rfl (hs _ List.mem_cons_self e m t)
    | fn asx r=>exact k2
  exact⟨g,us,λ _=>False,g1,(hB g g4).trans g2,LSRs.move hZ hB (λ _ h=>h.elim) (nof ss _ us F' hn g3),g4⟩
theorem Zed {B Z:Nat->Prop} {F:Nat->Prop}:∀(asx:List Ty) (ins rest:List ASh) (f:dens asx->lsd (flats rest)->lsd (flats ins)),ZeC asx ins=some ⟨rest,f⟩->∀(x:dens asx) (y:lsd (flats rest)) (vs us:List Value),ZdG Z w asx x vs->ASRs P B Z w rest y us F->ASRs P B Z w ins (f x y) (vs++us) F
 | [],ins,rest,f,h,x,y,vs,us,ha,hr=>by
  simp only[ZeC,Option.some.injEq,Sigma.mk.injEq]at h;obtain⟨rfl,h⟩:=h
  cases h
  cases ha
  exact hr
 | a :: asx,[],rest,f,h,x,y,vs,us,ha,hr=>by cases h
 | a :: asx,.one (.v t) :: ins,rest,f,h,x,y,vs,us,ha,hr=>by
  unfold ZeC at h
  split at h
  ·
   rename_i hh rest' f' hone heq hsp
   cases h
   obtain⟨hh⟩:=hh;subst hh;obtain⟨v,cs,vs', rfl,h2,h3,h4,h5⟩:=ha;have h1:=h3 hone;have hcs:cs=[v]:=by
    rw[<-h2]
    cases v <;> first|rfl|cases h1
   subst hcs;exact⟨v,vs' ++ us,λ _=>False,F,rfl,h4,Zed asx ins _ f' hsp x.2 y vs' us h5 hr,λ _ h=>h.elim,λ _ h=>h,λ _ h=>h.elim⟩
  ·cases h
 | a :: asx,.one (.own _ _ _) :: ins,rest,f,h,x,y,vs,us,ha,hr=>by cases h
 | a :: asx,.one (.fn _ _) :: ins,rest,f,h,x,y,vs,us,ha,hr=>by cases h
 | a :: asx,.agg _ :: ins,rest,f,h,x,y,vs,us,ha,hr=>by cases h
 | a :: asx,.eat _ _ _ :: ins,rest,f,h,x,y,vs,us,ha,hr=>by cases h
 | a :: asx,.non :: ins,rest,f,h,x,y,vs,us,ha,hr=>by cases h
 | a :: asx,.ptr _ _ _ :: ins,rest,f,h,x,y,vs,us,ha,hr=>by cases h
end
section
variable {P:Program} {B Z:Nat->Prop} {ρ : Rz} {ob:List (Nat×Ob)} {w:World} {γ β : Type} {KK : γ -> List Nat->Option β} {nd:List Nat} {r : β}
theorem ZlT {outs:List ASh} {t:Ty} {o:lsd (flats outs)->t.den} (h:Zj6 outs=some ⟨t,o⟩) {Z' : Nat->Prop} {w' : World} {y:lsd (flats outs)} {us:List Value} {F:Nat->Prop} (hr:ASRs P B Z' w' outs y us F):∃v,us=[v]/\Rep Z' w' false t (o y) [v] λ _=>False:=by
 unfold Zj6 at h
 split at h
 ·
  cases h
  obtain⟨v,vs', F0,F1,rfl,h2,h3,_⟩:=hr
  cases h3
  exact⟨v,rfl,h2⟩
 ·cases h
theorem ZeX {w w1:World} {k:Nat} (hk:k < w.heap.size) (h:w1.heap[k]? = w.heap[k]?):k < w1.heap.size:=by rw[Array.getElem?_eq_getElem hk]at h;exact(Array.getElem?_eq_some_iff.1 h).1
theorem ZiL {E:Env} (hE:ZdB P E.con) (hm:Mem P B ρ Z (look ob) w) {g:FuncId} {caps:List (Nat×Nat)} {asx:List Ty} {rt:Ty} {v:Value} {K:(dens asx->Option rt.den)->List Nat->List Nat->Pg γ} (h:(cloFn E g caps asx rt K).run ob KK nd=some r) (hv:LR P B ρ Z w (.clo g caps) v) :
  ∃f b c nd', (K f b c).run ob KK nd' = some r/\FnR P (λ k=>Zc Z ρ c k\/Zc B ρ b k) w asx rt f v/\Alive ob c/\Alive ob b:=by
 unfold cloFn at h
 split at h
 ·
  rename_i c hc
  split at h
  ·
   rename_i rest f0 t o hsp hout
   split at h
   ·
    rename_i hh heq
    rw[ZaO]at h;obtain⟨hfl,h⟩:=h;simp only[Bool.and_eq_true]at hfl;obtain⟨vs,rfl,hcaps⟩:=hv;obtain⟨y,b,cl,nd', h,hs,hal,halb,hps⟩:=Zec hm rest caps vs _ _ h hcaps;refine⟨_,b,cl,nd', h,⟨g,#[],vs.toArray,rfl,(hE g c hc).1,?_⟩,hal,halb⟩;intro w1 Z1 x yv us hsame hf hz1 hargs;have hzl:∀k,Zc Z ρ cl k->k < w.heap.size:=λ k hk=>hk.elim (hm.zlt k) λ h=>(hm.zsep k (h.own hal)).2
    have hbl:∀k,Zc B ρ b k->k < w.heap.size:=λ k hk=>hk.elim (hm.blt k) λ h=>(hm.zsep k (h.own halb)).2
    have hs1:ASRs P (Zc B ρ b) (Zc Z ρ cl) w1 rest y vs λ _=>False:=ASRs.move_ro (λ k hk=>hsame k (.inl hk)) (λ k hk=>hsame k (.inr hk)) hps hs
    have hs2:ASRs P (Zc B ρ b) (λ k=>Z1 k\/Zc Z ρ cl k) w1 rest y vs λ _=>False:=ASRs.mono (λ k hk => .inr hk) (λ _ h=>h) (λ _ h=>h) hs1
    have ha2:∀(asx:List Ty) (x:dens asx) (us:List Value),ZdG Z1 w1 asx x us->ZdG (λ k=>Z1 k\/Zc Z ρ cl k) w1 asx x us:=by
     intro asx
     induction asx with
     | nil=>intro x us h;exact h
     | cons a asx ih =>
      intro x us ⟨v,cs,r,h1,h2,h3,h4,h5⟩;exact⟨v,cs,r,h1,h2,h3,Rep.imp a h4 (λ _ h => .inl h) (λ _ h=>h) (λ _ _=>rfl) (λ _ _=>rfl),ih _ _ h5⟩
    simp only[]at hf
    cases hcf:c.f (f0 x y)with
    | none=>rw[hcf]at hf;cases hf
    | some yz =>
     rw[hcf]at hf;have hf:hh.down ▸ o (c.dec yz).1=yv:=Option.some.inj hf;have hcall:=(hE g c hc).2 _ yz hcf (λ k=>Z1 k\/Zc Z ρ cl k) (Zc B ρ b) (λ _=>False) w1 (us++vs) (Zed asx c.ins rest f0 hsp x y us vs (ha2 asx x us hargs) hs2) (λ _ h=>h.elim)
      (λ k hk=>hk.elim (hz1 k) λ h=>ZeX (hzl k h) (hsame k (.inl h))) (λ k hk=>ZeX (hbl k hk) (hsame k (.inr hk)))
     rw[show(us++vs).toArray = #[]++us.toArray++vs.toArray by simp]at hcall;refine hcall.mono λ e w2 ⟨u,he,Z', Fi,Fo,hp⟩=>⟨u,he,?_,hp.os,hp.tape,hp.output,hp.size,λ k hk=>hp.old k hk λ h=>h⟩
     obtain⟨us', hu,hr⟩:=hp.out;obtain⟨v', rfl,hrep⟩:=ZlT hout hr;obtain⟨hh⟩:=hh;subst hh;have hu:u=v' := hu;rw[hu,<-hf];exact Rep.flat _ hfl.1 hrep
   ·cases h
  ·cases h
 ·cases h
def ZfH (ρ : Rz):LS->Value->List Nat->Prop
 | .own _ _ _,v,Ts=>∃T z,Ts=[T] /\ ρ T=some z/\z.hdr=v
 | .v _,_,Ts=>Ts=[]
 | .fn _ _,_,Ts=>Ts=[]
def ZcP (ρ : Rz):List LS->List Value->List Nat->Prop
 | [],_,Ts=>Ts=[]
 | s :: ss,vs,Ts=>∃v vs' t1 t2,vs=v :: vs' /\ Ts=t1++t2/\ZfH ρ s v t1/\ZcP ρ ss vs' t2
def BackA (ρ : Rz):ASh->Value->List Nat->Prop
 | .one s,v,Ts=>ZfH ρ s v Ts
 | .agg ss,v,Ts=>∃vs,v = .agg vs.toArray/\ZcP ρ ss vs Ts
 | .ptr true _ _,_,Ts=>Ts=[]
 | .eat _ _ _,_,Ts=>Ts=[]
 | .non,_,Ts=>Ts=[]
 | .ptr false _ _,v,Ts=>∃T z,Ts=[T] /\ ρ T=some z/\z.hdr=v
def ZdA (ρ : Rz):List ASh->List Value->List Nat->Prop
 | [],_,Ts=>Ts=[]
 | a :: r,vs,Ts=>∃v vs' t1 t2,vs=v :: vs' /\ Ts=t1++t2/\BackA ρ a v t1/\ZdA ρ r vs' t2
structure SlotsOk (ρ : Rz) (ob:List (Nat×Ob)) (s:Slots):Prop where
 back:Alive ob s.back
 gone:Alive ob s.gone
 lent:Alive ob s.lent
 box:Alive ob s.box
theorem Alive.append {a b:List Nat} (h:Alive ob a) (h' : Alive ob b):Alive ob (a++b):=λ T hT=>(List.mem_append.1 hT).elim (h T) (h' T)
theorem Alive.nil:Alive ob []:=λ _ h=>by cases h
theorem SlotsOk.plus {a b:Slots} (h:SlotsOk ρ ob a) (h' : SlotsOk ρ ob b):SlotsOk ρ ob (a.plus b):=⟨h.back.append h'.back,h.gone.append h'.gone,h.lent.append h'.lent,h.box.append h'.box⟩
theorem Zj8 {T:Nat} {z:Rzv} {e:TypeId} {m m' : Bool} {t:Ty} {xs:List t.den} (h:Zch w e t.size (Rep Z w m' t) z.hdr xs z.F) (hz : ρ T=some z) (hc:(m == m' || t.flat)=true):Zch w e t.size (Rep Z w m t) z.hdr xs (Of ρ [T]):=by
 refine Zch.imp h (λ k hk=>⟨T,z,List.mem_singleton.2 rfl,hz,hk⟩) (λ _ _=>rfl) λ p cs G _ hp => ?_
 rw[Bool.or_eq_true]at hc;rcases hc with hc|hc
 ·
  have:m=m' := by simpa using hc
  subst this;exact hp
 ·exact Rep.imp t (Rep.flat t hc hp) (λ _ h=>h) (λ _ h=>h.elim) (λ _ _=>rfl) (λ _ _=>rfl)
theorem Zeh {E:Env} (hE:ZdB P E.con) (hm:Mem P B ρ Z (look ob) w):∀(s:LS) (l:Lf) (v:Value) (nd:List Nat) (K:s.den->Slots->Pg γ),(argLf E s l K).run ob KK nd=some r->LR P B ρ Z w l v ->
  ∃x sl nd', (K x sl).run ob KK nd' = some r/\LSR P (Zc B ρ sl.box) (Zc Z ρ sl.lent) w s x v (Of ρ (sl.back++sl.gone))/\SlotsOk ρ ob sl/\ZfH ρ s v sl.back
 | .v t,l,v,nd,K,h,hl=>by obtain⟨x,c,nd1,h,htell,hal⟩:=Zd1 hm h hl;exact⟨x,_,nd1,h,htell,⟨Alive.nil,Alive.nil,hal,Alive.nil⟩,rfl⟩
 | .own e m t,l,v,nd,K,h,hl=>by
  cases l <;> first|(cases h;done)|skip
  rename_i T
  simp only[argLf,Zbu]at h;obtain⟨o,ho,h⟩:=h
  split at h
  ·
   rename_i e' m' t' xs
   rw[ZaO]at h;obtain⟨hc,h⟩:=h;simp only[Bool.and_eq_true]at hc;obtain⟨he', hc⟩:=hc;obtain rfl:=Nat.eq_of_beq_eq_true he'
   split at h
   ·
    rename_i hh _
    obtain⟨hh⟩:=hh;subst hh;obtain⟨z,hz,hrow⟩:=hm.obj T _ ho;obtain⟨z', hz', rfl,_⟩:=hl;rw[hz]at hz'
    cases hz'
    have hal:Alive ob [T]:=λ U hU=>by rw[List.mem_singleton.1 hU,ho];rfl
    refine⟨xs,_,_,h,?_,⟨hal,Alive.nil,Alive.nil,Alive.nil⟩,⟨T,z,rfl,hz,rfl⟩⟩;exact Zch.imp (Zj8 hrow hz hc) (λ k hk=>by rw[List.append_nil];exact hk) (λ _ _=>rfl) λ p cs G _ hp=>Rep.imp t' hp (λ _ h => .inl h) (λ _ h=>h) (λ _ _=>rfl) (λ _ _=>rfl)
   ·cases h
  ·cases h
 | .fn asx rt,l,v,nd,K,h,hl=>by
  cases l <;> first|(cases h;done)|skip
  ·
   rename_i asx' r' f
   simp only[argLf]at h
   split at h
   ·
    rename_i e1 e2 _ _
    refine⟨_,_,nd,h,?_,⟨Alive.nil,Alive.nil,Alive.nil,Alive.nil⟩,rfl⟩;exact FnR.fut (FnR.comp e1.down e2.down hl) (λ k hk=>hk.imp .inl .inl) λ _ _=>rfl
   ·cases h
  ·
   rename_i g caps
   simp only[argLf]at h;obtain⟨f,b,c,nd', h,hf,hal,halb⟩:=ZiL hE hm h hl;exact⟨f,_,nd', h,hf,⟨Alive.nil,Alive.nil,hal,halb⟩,rfl⟩
theorem Of.perm {a b:List Nat} (h:∀T∈a,T∈b) {k:Nat} (hk:Of ρ a k):Of ρ b k:=let ⟨T,z,h1,h2⟩:=hk;⟨T,z,h T h1,h2⟩
theorem Zdi (hm:Mem P B ρ Z (look ob) w) {a b:Slots} (ha:SlotsOk ρ ob a) (hb:SlotsOk ρ ob b) (hn:nodup ((a.plus b).back++(a.plus b).gone)=true):nodup (a.back++a.gone)=true/\nodup (b.back++b.gone)=true/\∀k,Of ρ (a.back++a.gone) k->¬ Of ρ (b.back++b.gone) k:=by
 have mk:∀{x y:List Nat},nodup x=true->nodup y=true->(∀T∈x,T ∉ y)->nodup (x++y)=true:=by
  intro x
  induction x with
  | nil=>intro y _ h _;exact h
  | cons n x ih =>
   intro y hx hy hd;simp only[nodup,Bool.and_eq_true,Bool.not_eq_true', List.contains_eq_mem,decide_eq_false_iff_not,List.cons_append,List.mem_append,not_or]at hx ⊢;exact⟨⟨hx.1,hd n List.mem_cons_self⟩,ih hx.2 hy λ T hT=>hd T (List.mem_cons_of_mem _ hT)⟩
 obtain⟨n1,n2,n3⟩:=nodup_append hn;obtain⟨b1,b2,b3⟩:=nodup_append (a:=a.back) (b:=b.back) n1;obtain⟨g1,g2,g3⟩:=nodup_append (a:=a.gone) (b:=b.gone) n2;have x1:∀T,T∈a.back->T ∉ a.gone:=λ T h1 h2=>n3 T (List.mem_append_left _ h1) (List.mem_append_left _ h2)
 have x2:∀T,T∈b.back->T ∉ b.gone:=λ T h1 h2=>n3 T (List.mem_append_right _ h1) (List.mem_append_right _ h2)
 refine⟨mk b1 g1 x1,mk b2 g2 x2,λ k hk hk' => Of.sep hm (ha.back.append ha.gone) (hb.back.append hb.gone) (λ T hT hT' => ?_) hk hk'⟩;rcases List.mem_append.1 hT with h1|h1 <;> rcases List.mem_append.1 hT' with h2|h2
 ·exact b3 T h1 h2
 ·exact n3 T (List.mem_append_left _ h1) (List.mem_append_right _ h2)
 ·exact n3 T (List.mem_append_right _ h2) (List.mem_append_left _ h1)
 ·exact g3 T h1 h2
theorem ZcJ {a b:Slots} {k:Nat} (h:Of ρ (a.back++a.gone) k):Of ρ ((a.plus b).back++(a.plus b).gone) k:=Of.perm (λ T hT=>by simp only[Slots.plus,List.mem_append]at hT ⊢;exact hT.elim (λ h => .inl (.inl h)) λ h => .inr (.inl h)) h
theorem of_plus' {a b:Slots} {k:Nat} (h:Of ρ (b.back++b.gone) k):Of ρ ((a.plus b).back++(a.plus b).gone) k:=Of.perm (λ T hT=>by simp only[Slots.plus,List.mem_append]at hT ⊢;exact hT.elim (λ h => .inl (.inr h)) λ h => .inr (.inr h)) h
theorem Zfe {E:Env} (hE:ZdB P E.con) (hm:Mem P B ρ Z (look ob) w):∀(ss:List LS) (ls:List Lf) (vs:List Value) (nd:List Nat) (K:lsd ss->Slots->Pg γ),(Zk3 E ss ls K).run ob KK nd=some r->LRs P B ρ Z w ls vs ->
  ∃x sl nd', (K x sl).run ob KK nd' = some r/\(nodup (sl.back++sl.gone)=true->LSRs P (Zc B ρ sl.box) (Zc Z ρ sl.lent) w ss x vs (Of ρ (sl.back++sl.gone)))/\SlotsOk ρ ob sl/\ZcP ρ ss vs sl.back
 | [],[],vs,nd,K,h,hl=>⟨(),_,nd,h,λ _=>hl,⟨Alive.nil,Alive.nil,Alive.nil,Alive.nil⟩,rfl⟩
 | [],_ :: _,vs,nd,K,h,hl=>by cases h
 | _ :: _,[],vs,nd,K,h,hl=>by cases h
 | s :: ss,l :: ls,vs,nd,K,h,⟨v,vs', e1,h2,h3⟩=>by subst e1;obtain⟨x,a,nd1,h,hs,ha,hb⟩:=Zeh hE hm s l v nd _ h h2;obtain⟨y,b,nd2,h,hss,ha', hb'⟩:=Zfe hE hm ss ls vs' nd1 _ h h3;refine⟨(x,y),a.plus b,nd2,h,λ hn => ?_,ha.plus ha', ⟨v,vs', a.back,b.back,rfl,rfl,hb,hb'⟩⟩;obtain⟨n1,n2,n3⟩:=Zdi hm ha ha' hn;exact⟨v,vs', _,_,rfl,hs.mono (λ k hk=>hk.imp id Of.left) (λ k hk=>hk.imp id Of.left) (λ _ h=>h),LSRs.mono (λ k hk=>hk.imp id Of.right) (λ k hk=>hk.imp id Of.right) (λ _ h=>h) (hss n2),λ k hk=>ZcJ hk,λ k hk=>of_plus' hk,n3⟩
theorem ZcS (hm:Mem P B ρ Z (look ob) w):∀(ss:List LS) (ls:List Lf) (vs:List Value) (nd:List Nat) (K:lsd ss->List Nat->Pg γ),(ZdN ss ls K).run ob KK nd=some r->LRs P B ρ Z w ls vs ->
  ∃x c nd', (K x c).run ob KK nd' = some r/\(nodup c=true->LSRs P B Z w ss x vs (Of ρ c))/\Alive ob c
 | [],[],vs,nd,K,h,hl=>⟨(),_,nd,h,λ _=>hl,Alive.nil⟩
 | [],_ :: _,vs,nd,K,h,hl=>by cases h
 | .v t :: ss,[],vs,nd,K,h,hl=>by cases h
 | .own e m t :: ss,[],vs,nd,K,h,hl=>by cases h
 | .fn asx t :: ss,[],vs,nd,K,h,hl=>by cases h
 | .fn asx t :: ss,_ :: _,vs,nd,K,h,hl=>by cases h
 | .v t :: ss,l :: ls,vs,nd,K,h,⟨v,vs', e1,h2,h3⟩=>by subst e1;obtain⟨x,c,nd1,h,htell,hal⟩:=Zd1 hm h h2;obtain⟨y,c', nd2,h,hs,hal'⟩:=ZcS hm ss ls vs' nd1 _ h h3;exact⟨(x,y),c', nd2,h,λ hn=>⟨v,vs', λ _=>False,_,rfl,htell,hs hn,λ _ h=>h.elim,λ _ h=>h,λ _ h=>h.elim⟩,hal'⟩
 | .own e m t :: ss,l :: ls,vs,nd,K,h,⟨v,vs', e1,h2,h3⟩=>by
  subst e1
  cases l <;> first|(cases h;done)|skip
  rename_i T
  simp only[ZdN,Zbu]at h;obtain⟨o,ho,h⟩:=h
  split at h
  ·
   rename_i e' m' t' xs
   rw[ZaO]at h;obtain⟨hc,h⟩:=h;simp only[Bool.and_eq_true]at hc;obtain⟨he', hc⟩:=hc;obtain rfl:=Nat.eq_of_beq_eq_true he'
   split at h
   ·
    rename_i hh _
    obtain⟨hh⟩:=hh;subst hh;obtain⟨z,hz,hrow⟩:=hm.obj T _ ho;obtain⟨z', hz', rfl,_⟩:=h2;rw[hz]at hz'
    cases hz'
    obtain⟨y,c', nd2,h,hs,hal'⟩:=ZcS hm ss ls vs' _ _ h h3;have hal:Alive ob [T]:=λ U hU=>by rw[List.mem_singleton.1 hU,ho];rfl
    refine⟨(xs,y),T :: c', nd2,h,λ hn => ?_,λ U hU=>(List.mem_cons.1 hU).elim (λ e=>hal U (List.mem_singleton.2 e)) (hal' U)⟩;obtain⟨n1,n2,n3⟩:=nodup_append (a:=[T]) (b:=c') hn;exact⟨_,vs', Of ρ [T],Of ρ c', rfl,Zj8 hrow hz hc,hs n2,λ k hk=>Of.left (b:=c') hk,λ k hk=>Of.right (a:=[T]) hk,λ k hk hk' => Of.sep hm hal hal' n3 hk hk'⟩
   ·cases h
  ·cases h
def AVs (P:Program) (B:Nat->Prop) (ρ : Rz) (Z:Nat->Prop) (w:World):List AV->List Value->Prop
 | [],vs=>vs=[]
 | a :: r,vs=>∃v vs', vs=v :: vs' /\ AR P B ρ Z w a v/\AVs P B ρ Z w r vs'
theorem Zcy {E:Env} (hE:ZdB P E.con) (hm:Mem P B ρ Z (look ob) w):∀(ins:List ASh) (avs:List AV) (vs:List Value) (nd:List Nat) (K:lsd (flats ins)->Slots->Pg γ),(args E ins avs K).run ob KK nd=some r->AVs P B ρ Z w avs vs ->
  ∃x sl nd', (K x sl).run ob KK nd' = some r/\(nodup (sl.back++sl.gone)=true->ASRs P (Zc B ρ sl.box) (Zc Z ρ sl.lent) w ins x vs (Of ρ (sl.back++sl.gone)))/\SlotsOk ρ ob sl/\ZdA ρ ins vs sl.back
 | [],[],vs,nd,K,h,hl=>⟨(),_,nd,h,λ _=>hl,⟨Alive.nil,Alive.nil,Alive.nil,Alive.nil⟩,rfl⟩
 | [],_ :: _,vs,nd,K,h,hl=>by cases h
 | .one s :: ins,avs,vs,nd,K,h,hl=>by
  rcases avs with _|⟨av,avs⟩
  ·cases h
  ·
   cases av <;> first|(cases h;done)|skip
   rename_i l
   obtain⟨v,vs', rfl,h2,h3⟩:=hl;obtain⟨x,a,nd1,h,hs,ha,hb⟩:=Zeh hE hm s l v nd _ h h2;obtain⟨y,b,nd2,h,hss,ha', hb'⟩:=Zcy hE hm ins avs vs' nd1 _ h h3;refine⟨_,a.plus b,nd2,h,λ hn => ?_,ha.plus ha', ⟨v,vs', a.back,b.back,rfl,rfl,hb,hb'⟩⟩;obtain⟨n1,n2,n3⟩:=Zdi hm ha ha' hn;exact⟨v,vs', _,_,rfl,hs.mono (λ k hk=>hk.imp id Of.left) (λ k hk=>hk.imp id Of.left) (λ _ h=>h),ASRs.mono (λ k hk=>hk.imp id Of.right) (λ k hk=>hk.imp id Of.right) (λ _ h=>h) (hss n2),λ k hk=>ZcJ hk,λ k hk=>of_plus' hk,n3⟩
 | .non :: ins,avs,vs,nd,K,h,hl=>by
  rcases avs with _|⟨av,avs⟩
  ·cases h
  ·
   cases av <;> first|(cases h;done)|skip
   rename_i l
   cases l <;> first|(cases h;done)|skip
   obtain⟨v,vs', rfl,h2,h3⟩:=hl;obtain⟨y,b,nd2,h,hss,ha', hb'⟩:=Zcy hE hm ins avs vs' nd _ h h3;exact⟨y,b,nd2,h,λ hn=>⟨v,vs', λ _=>False,_,rfl,h2,hss hn,λ k hk=>hk.elim,λ k hk=>hk,λ k hk=>hk.elim⟩,ha', ⟨v,vs', [],b.back,rfl,rfl,rfl,hb'⟩⟩
 | .eat e m t :: ins,avs,vs,nd,K,h,hl=>by
  rcases avs with _|⟨av,avs⟩
  ·cases h
  ·
   cases av <;> first|(cases h;done)|skip
   rename_i l
   obtain⟨v,vs', rfl,h2,h3⟩:=hl;obtain⟨x,a,nd1,h,hs,ha,hb⟩:=Zeh hE hm (.own e m t) l v nd _ h h2;obtain⟨y,b,nd2,h,hss,ha', hb'⟩:=Zcy hE hm ins avs vs' nd1 _ h h3;have ha2:SlotsOk ρ ob ⟨[],a.back++a.gone,a.lent,a.box⟩:=⟨Alive.nil,ha.back.append ha.gone,ha.lent,ha.box⟩
   refine⟨_,Slots.plus ⟨[],a.back++a.gone,a.lent,a.box⟩ b,nd2,h,λ hn => ?_,ha2.plus ha', ⟨v,vs', [],b.back,rfl,rfl,rfl,hb'⟩⟩;obtain⟨n1,n2,n3⟩:=Zdi hm ha2 ha' hn;have hs' := hs;exact⟨v,vs', _,_,rfl,LSR.mono (P:=P) (B' := Zc B ρ (a.box++b.box)) (s := .own e m t) hs' (λ k hk=>hk.imp id Of.left) (λ k hk=>hk.imp id Of.left) (λ _ h=>h),ASRs.mono (λ k hk=>hk.imp id Of.right) (λ k hk=>hk.imp id Of.right) (λ _ h=>h) (hss n2),λ k hk=>ZcJ hk,λ k hk=>of_plus' hk,n3⟩
 | .agg ss :: ins,avs,vs,nd,K,h,hl=>by
  rcases avs with _|⟨av,avs⟩
  ·cases h
  ·
   cases av <;> first|(cases h;done)|skip
   rename_i ls
   obtain⟨v,vs', rfl,h2,h3⟩:=hl;obtain⟨us,rfl,h2⟩:=h2;obtain⟨x,a,nd1,h,hs,ha,hb⟩:=Zfe hE hm ss ls us nd _ h h2;obtain⟨y,b,nd2,h,hss,ha', hb'⟩:=Zcy hE hm ins avs vs' nd1 _ h h3;refine⟨_,a.plus b,nd2,h,λ hn => ?_,ha.plus ha', ⟨_,vs', a.back,b.back,rfl,rfl,⟨us,rfl,hb⟩,hb'⟩⟩;obtain⟨n1,n2,n3⟩:=Zdi hm ha ha' hn;refine⟨_,vs', _,_,rfl,?_,?_,λ k hk=>ZcJ hk,λ k hk=>of_plus' hk,n3⟩
   ·rw[show Zaf (ASh.agg ss).flat (flats ins) (ZbP ss (flats ins) x y)=(x,y)from Zbv ss (flats ins) x y];exact⟨us,rfl,LSRs.mono (λ k hk=>hk.imp id Of.left) (λ k hk=>hk.imp id Of.left) (λ _ h=>h) (hs n1)⟩
   ·rw[show Zaf (ASh.agg ss).flat (flats ins) (ZbP ss (flats ins) x y)=(x,y)from Zbv ss (flats ins) x y];exact ASRs.mono (λ k hk=>hk.imp id Of.right) (λ k hk=>hk.imp id Of.right) (λ _ h=>h) (hss n2)
 | .ptr ro t ss :: ins,avs,vs,nd,K,h,hl=>by
  rcases avs with _|⟨av,avs⟩
  ·cases h
  ·
   cases av <;> first|(cases h;done)|skip
   rename_i l
   cases l <;> first|(cases h;done)|skip
   rename_i T off
   rcases off with _|off
   ·
    obtain⟨v,vs', rfl,h2,h3⟩:=hl;simp only[args,Zbu]at h;obtain⟨o,ho,h⟩:=h
    split at h
    ·
     rename_i bt ro' cells
     rw[ZaO]at h;obtain⟨hc,h⟩:=h;simp only[Bool.and_eq_true]at hc;obtain⟨hbt,hc⟩:=hc;obtain rfl:=Nat.eq_of_beq_eq_true hbt;obtain⟨z,hz,g,us,g1,g2,g3,g4,g5,g6⟩:=hm.obj T _ ho;obtain⟨z', g', hz', hg', rfl⟩:=h2;rw[hz]at hz'
     cases hz'
     rw[g1]at hg'
     cases hg'
     have halT:Alive ob [T]:=λ U hU=>by rw[List.mem_singleton.1 hU,ho];rfl
     cases ro with
     | true =>
      obtain⟨x,c,nd1,h,hs,hal⟩:=Zct hm ss cells us _ _ h g3;obtain⟨y,b,nd2,h,hss,ha', hb'⟩:=Zcy hE hm ins avs vs' nd1 _ h h3;have ha:SlotsOk ρ ob ⟨[],[],c,[T]⟩:=⟨Alive.nil,Alive.nil,hal,halT⟩
      refine⟨_,_,nd2,h,λ hn => ?_,ha.plus ha', ⟨_,vs', [],b.back,rfl,rfl,rfl,hb'⟩⟩;obtain⟨n1,n2,n3⟩:=Zdi hm ha ha' hn;refine⟨_,vs', λ _=>False,_,rfl,?_,?_,λ _ h=>h.elim,λ k hk=>of_plus' hk,λ _ h=>h.elim⟩
      ·
       rw[show Zaf (ASh.ptr true bt ss).flat (flats ins) (ZbP ss (flats ins) x y)=(x,y)from Zbv ss (flats ins) x y];refine⟨g,us,_,rfl,g2,LSRs.mono (λ k hk=>hk.imp id Of.left) (λ k hk => .inl hk) (λ _ h=>h) hs,?_⟩
       cases ro' with
       | true=>exact .inl (g6 rfl)
       | false=>exact .inr ⟨T,z,List.mem_cons_self,hz,g5 rfl⟩
      ·rw[show Zaf (ASh.ptr true bt ss).flat (flats ins) (ZbP ss (flats ins) x y)=(x,y)from Zbv ss (flats ins) x y];exact ASRs.mono (λ k hk=>hk.imp id Of.right) (λ k hk=>hk.imp id (Of.right (a:=[T]))) (λ _ h=>h) (hss n2)
     | false =>
      simp only[Bool.false_or,Bool.not_eq_true']at hc;subst hc;obtain⟨x,c,nd1,h,hs,hal⟩:=ZcS hm ss cells us _ _ h g3;obtain⟨y,b,nd2,h,hss,ha', hb'⟩:=Zcy hE hm ins avs vs' nd1 _ h h3;have ha:SlotsOk ρ ob ⟨[T],c,[],[]⟩:=⟨halT,hal,Alive.nil,Alive.nil⟩
      refine⟨_,_,nd2,h,λ hn => ?_,ha.plus ha', ⟨_,vs', [T],b.back,rfl,rfl,⟨T,z,rfl,hz,g1⟩,hb'⟩⟩;obtain⟨n1,n2,n3⟩:=Zdi hm ha ha' hn;obtain⟨m1,m2,m3⟩:=nodup_append (a:=[T]) (b:=c) n1;refine⟨_,vs', Of ρ ([T]++c),_,rfl,?_,?_,λ k hk=>ZcJ (a:=⟨[T],c,[],[]⟩) hk,λ k hk=>of_plus' hk,n3⟩
      ·
       rw[show Zaf (ASh.ptr false bt ss).flat (flats ins) (ZbP ss (flats ins) x y)=(x,y)from Zbv ss (flats ins) x y];have hgT:Of ρ [T] g:=⟨T,z,List.mem_singleton.2 rfl,hz,g5 rfl⟩
       exact⟨g,us,Of ρ c,rfl,g2,LSRs.mono (λ k hk => .inl hk) (λ k hk => .inl hk) (λ _ h=>h) (hs m2),Of.left hgT,λ hk=>Of.sep hm halT hal m3 hgT hk,λ k hk=>Of.right hk⟩
      ·rw[show Zaf (ASh.ptr false bt ss).flat (flats ins) (ZbP ss (flats ins) x y)=(x,y)from Zbv ss (flats ins) x y];exact ASRs.mono (λ k hk=>hk.imp id Of.right) (λ k hk=>hk.imp id (Of.right (a:=[]))) (λ _ h=>h) (hss n2)
    ·cases h
   ·cases h
end
theorem ZbK {α : Type} (T:Nat):∀(a b:List (Nat × α)),lk T (a++b)=match lk T a with
  | some x=>some x
  | none=>lk T b
 | [],b=>rfl
 | (m,x) :: a,b=>by
  by_cases h:T=m
  ·subst h;simp[lk]
  ·simp[lk,ZbM h,ZbK T a b]
theorem Zbs {α : Type}:∀(a b:List (Nat × α)),keys (a++b)=keys a++keys b
 | [],_=>rfl
 | (m,x) :: a,b=>by simp[keys,Zbs a b]
theorem Rep.anyZ:∀(t:Ty) {Z Z' F:Nat->Prop} {w:World} {x:t.den} {cs:List Value},Rep Z w true t x cs F->Rep Z' w true t x cs F
 | .int _,_,_,_,_,_,_,h=>h
 | .bool,_,_,_,_,_,_,h=>h
 | .str,_,_,_,_,_,_,h=>h
 | .raw,_,_,_,_,_,_,h=>h
 | .sl e t,Z,Z', F,w,x,cs,h=>by obtain⟨hdr,rfl,hr,hn⟩:=h;exact⟨hdr,rfl,hr.imp (λ _ h=>h) (λ _ _=>rfl) (λ p cs G _ hp=>Rep.anyZ t hp),hn⟩
 | .pr a b,Z,Z', F,w,x,cs,h=>by obtain⟨c0,c1,F0,F1,h1,h2,h3,h4⟩:=h;exact⟨c0,c1,F0,F1,h1,Rep.anyZ a h2,Rep.anyZ b h3,h4⟩
section
variable {P:Program} {B B' Z Z' : Nat->Prop} {w w' : World}
theorem LSRs.reB:∀{ss:List LS} {x:lsd ss} {vs:List Value} {F:Nat->Prop},noFn ss=true->LSRs P B Z w ss x vs F->LSRs P B' Z w ss x vs F
 | [],_,_,_,_,h=>h
 | .v t :: ss,x,_,F,hn,⟨v,vs', F0,F1,h1,h2,h3,h4⟩=>⟨v,vs', F0,F1,h1,h2,LSRs.reB (ss:=ss) hn h3,h4⟩
 | .own e m t :: ss,x,_,F,hn,⟨v,vs', F0,F1,h1,h2,h3,h4⟩=>⟨v,vs', F0,F1,h1,h2,LSRs.reB (ss:=ss) hn h3,h4⟩
 | .fn asx r :: ss,x,_,F,hn,h=>by cases hn
theorem LSRs.reZ:∀{ss:List LS} {x:lsd ss} {vs:List Value} {F:Nat->Prop},noFn ss=true->Zci ss=false->LSRs P B Z w ss x vs F->LSRs P B Z' w ss x vs F
 | [],_,_,_,_,_,h=>h
 | .v t :: ss,x,_,F,hn,hv,⟨v,vs', F0,F1,h1,h2,h3,h4⟩=>by simp only[Zci,Bool.or_eq_false_iff,Bool.not_eq_false']at hv;exact⟨v,vs', F0,F1,h1,Rep.flat t hv.1 h2,LSRs.reZ (ss:=ss) hn hv.2 h3,h4⟩
 | .own e m t :: ss,x,_,F,hn,hv,⟨v,vs', F0,F1,h1,h2,h3,h4⟩=>by
  simp only[Zci,Bool.or_eq_false_iff]at hv;refine⟨v,vs', F0,F1,h1,?_,LSRs.reZ (ss:=ss) hn hv.2 h3,h4⟩;refine Zch.imp h2 (λ _ h=>h) (λ _ _=>rfl) λ p cs G _ hp => ?_
  cases m with
  | true=>exact Rep.anyZ t hp
  | false =>
   have hf:t.flat=true:=by simpa using hv.1
   exact Rep.imp t (Rep.flat t hf hp) (λ _ h=>h) (λ _ h=>h.elim) (λ _ _=>rfl) (λ _ _=>rfl)
 | .fn asx r :: ss,x,_,F,hn,hv,h=>by cases hn
theorem ZbD:∀(a b:List LS),noFn (a++b)=true->noFn a=true/\noFn b=true
 | [],b,h=>⟨rfl,h⟩
 | .v t :: a,b,h=>ZbD a b h
 | .own e m t :: a,b,h=>ZbD a b h
 | .fn asx r :: a,b,h=>by cases h
theorem ZbB:∀(a b:List LS),Zci (a++b)=false->Zci a=false/\Zci b=false
 | [],b,h=>⟨rfl,h⟩
 | .v t :: a,b,h=>by simp only[List.cons_append,Zci,Bool.or_eq_false_iff]at h ⊢;exact⟨⟨h.1,(ZbB a b h.2).1⟩,(ZbB a b h.2).2⟩
 | .own e m t :: a,b,h=>by simp only[List.cons_append,Zci,Bool.or_eq_false_iff]at h ⊢;exact⟨⟨h.1,(ZbB a b h.2).1⟩,(ZbB a b h.2).2⟩
 | .fn asx r :: a,b,h=>ZbB a b h
theorem LSR.re {s:LS} {x:s.den} {v:Value} {F:Nat->Prop} (hn:noFn [s]=true) (h:LSR P B Z w s x v F):LSR P B' Z w s x v F:=by
 cases s with
 | v t=>exact h
 | own e m t=>exact h
 | fn asx r=>cases hn
theorem LSR.reZ {s:LS} {x:s.den} {v:Value} {F:Nat->Prop} (hn:noFn [s]=true) (hv:Zci [s]=false) (h:LSR P B Z w s x v F):LSR P B Z' w s x v F:=by
 have h1:LSRs P B Z w [s] (x,()) [v] F:=⟨v,[],F,λ _=>False,rfl,h,rfl,λ _ h=>h,λ _ h=>h.elim,λ _ _ h=>h⟩
 obtain⟨v', vs', F0,F1,e1,h2,h3,h4,_⟩:=LSRs.reZ (Z' := Z') hn hv h1
 cases e1
 exact h2.mono (λ _ h=>h) (λ _ h=>h) h4
theorem ASRs.re:∀{outs:List ASh} {y:lsd (flats outs)} {us:List Value} {F:Nat->Prop},noFn (flats outs)=true->noRo outs=true->ASRs P B Z w outs y us F->ASRs P B' Z w outs y us F
 | [],_,_,_,_,_,h=>h
 | .one s :: r,y,_,F,hn,hr,⟨v,vs', F0,F1,h1,h2,h3,h4⟩=>⟨v,vs', F0,F1,h1,LSR.re (ZbD [s] _ hn).1 h2,ASRs.re (outs:=r) (ZbD [s] _ hn).2 hr h3,h4⟩
 | .eat e m t :: r,y,_,F,hn,hr,⟨v,vs', F0,F1,h1,h2,h3,h4⟩=>⟨v,vs', F0,F1,h1,LSR.re (P:=P) (B:=B) (B' := B') (s := .own e m t) (ZbD [.own e m t] _ hn).1 h2,ASRs.re (outs:=r) (ZbD [.own e m t] _ hn).2 hr h3,h4⟩
 | .non :: r,y,_,F,hn,hr,⟨v,vs', F0,F1,h1,h2,h3,h4⟩=>⟨v,vs', F0,F1,h1,h2,ASRs.re (outs:=r) hn hr h3,h4⟩
 | .agg ss :: r,y,_,F,hn,hr,⟨v,vs', F0,F1,h1,⟨us,e1,h2⟩,h3,h4⟩=>⟨v,vs', F0,F1,h1,⟨us,e1,LSRs.reB (ZbD ss _ hn).1 h2⟩,ASRs.re (outs:=r) (ZbD ss _ hn).2 hr h3,h4⟩
 | .ptr false t ss :: r,y,_,F,hn,hr,⟨v,vs', F0,F1,h1,⟨g,us,F', e1,e2,h2,e3⟩,h3,h4⟩=>⟨v,vs', F0,F1,h1,⟨g,us,F', e1,e2,LSRs.reB (ZbD ss _ hn).1 h2,e3⟩,ASRs.re (outs:=r) (ZbD ss _ hn).2 hr h3,h4⟩
 | .ptr true t ss :: r,y,_,F,hn,hr,h=>by cases hr
theorem ASRs.reZ:∀{outs:List ASh} {y:lsd (flats outs)} {us:List Value} {F:Nat->Prop},noFn (flats outs)=true->Zci (flats outs)=false->ASRs P B Z w outs y us F->ASRs P B Z' w outs y us F
 | [],_,_,_,_,_,h=>h
 | .one s :: r,y,_,F,hn,hr,⟨v,vs', F0,F1,h1,h2,h3,h4⟩=>⟨v,vs', F0,F1,h1,LSR.reZ (ZbD [s] _ hn).1 (ZbB [s] _ hr).1 h2,ASRs.reZ (outs:=r) (ZbD [s] _ hn).2 (ZbB [s] _ hr).2 h3,h4⟩
 | .eat e m t :: r,y,_,F,hn,hr,⟨v,vs', F0,F1,h1,h2,h3,h4⟩=>⟨v,vs', F0,F1,h1,LSR.reZ (P:=P) (B:=B) (s := .own e m t) (ZbD [.own e m t] _ hn).1 (ZbB [.own e m t] _ hr).1 h2,ASRs.reZ (outs:=r) (ZbD [.own e m t] _ hn).2 (ZbB [.own e m t] _ hr).2 h3,h4⟩
 | .non :: r,y,_,F,hn,hr,⟨v,vs', F0,F1,h1,h2,h3,h4⟩=>⟨v,vs', F0,F1,h1,h2,ASRs.reZ (outs:=r) hn hr h3,h4⟩
 | .agg ss :: r,y,_,F,hn,hr,⟨v,vs', F0,F1,h1,⟨us,e1,h2⟩,h3,h4⟩=>⟨v,vs', F0,F1,h1,⟨us,e1,LSRs.reZ (ZbD ss _ hn).1 (ZbB ss _ hr).1 h2⟩,ASRs.reZ (outs:=r) (ZbD ss _ hn).2 (ZbB ss _ hr).2 h3,h4⟩
 | .ptr ro t ss :: r,y,_,F,hn,hr,⟨v,vs', F0,F1,h1,⟨g,us,F', e1,e2,h2,e3⟩,h3,h4⟩=>⟨v,vs', F0,F1,h1,⟨g,us,F', e1,e2,LSRs.reZ (ZbD ss _ hn).1 (ZbB ss _ hr).1 h2,e3⟩,ASRs.reZ (outs:=r) (ZbD ss _ hn).2 (ZbB ss _ hr).2 h3,h4⟩
theorem IoLS.reZ {s:LS} {v:Value} {x:lsd s.back} {F:Nat->Prop} (hv:Zci s.back=false) (h:IoLS Z w s v x F):IoLS Z' w s v x F:=by
 cases s with
 | v t=>trivial
 | fn asx r=>trivial
 | own e m t=>exact LSR.reZ (P:=default) (B:=λ _=>False) (Z:=Z) (s := .own e m t) rfl hv h
theorem IoLSs.reZ:∀{ss:List LS} {vs:List Value} {x:lsd (backs ss)} {F:Nat->Prop},Zci (backs ss)=false->IoLSs Z w ss vs x F->IoLSs Z' w ss vs x F
 | [],_,_,_,_,h=>h
 | s :: ss,_,x,F,hv,⟨v,vs', F0,F1,h1,h2,h3,h4⟩=>⟨v,vs', F0,F1,h1,IoLS.reZ (ZbB s.back _ hv).1 h2,IoLSs.reZ (ss:=ss) (ZbB s.back _ hv).2 h3,h4⟩
theorem IoR.re {a:ASh} {v:Value} {x:lsd a.io} {F:Nat->Prop} (hn:noFn a.io=true) (h:IoR P B Z w a v x F):IoR P B' Z w a v x F:=by
 cases a with
 | eat _ _ _=>trivial
 | non=>trivial
 | one s=>exact h
 | agg ss=>exact h
 | ptr ro t ss =>
  cases ro with
  | true=>trivial
  | false =>
   obtain⟨g,us,F', e1,e2,h2,e3⟩:=h;exact⟨g,us,F', e1,e2,LSRs.reB hn h2,e3⟩
theorem IoR.reZ {a:ASh} {v:Value} {x:lsd a.io} {F:Nat->Prop} (hn:noFn a.io=true) (hv:Zci a.io=false) (h:IoR P B Z w a v x F):IoR P B Z' w a v x F:=by
 cases a with
 | eat _ _ _=>trivial
 | non=>trivial
 | one s=>exact IoLS.reZ hv h
 | agg ss =>
  obtain⟨vs,e1,h⟩:=h;exact⟨vs,e1,IoLSs.reZ hv h⟩
 | ptr ro t ss =>
  cases ro with
  | true=>trivial
  | false =>
   obtain⟨g,us,F', e1,e2,h2,e3⟩:=h;exact⟨g,us,F', e1,e2,LSRs.reZ hn hv h2,e3⟩
theorem IoRs.re:∀{ins:List ASh} {vs:List Value} {x:lsd (ios ins)} {F:Nat->Prop},noFn (ios ins)=true->IoRs P B Z w ins vs x F->IoRs P B' Z w ins vs x F
 | [],_,_,_,_,h=>h
 | a :: r,_,x,F,hn,⟨v,vs', F0,F1,h1,h2,h3,h4⟩=>⟨v,vs', F0,F1,h1,IoR.re (ZbD a.io _ hn).1 h2,IoRs.re (ins:=r) (ZbD a.io _ hn).2 h3,h4⟩
theorem IoRs.reZ:∀{ins:List ASh} {vs:List Value} {x:lsd (ios ins)} {F:Nat->Prop},noFn (ios ins)=true->Zci (ios ins)=false->IoRs P B Z w ins vs x F->IoRs P B Z' w ins vs x F
 | [],_,_,_,_,_,h=>h
 | a :: r,_,x,F,hn,hv,⟨v,vs', F0,F1,h1,h2,h3,h4⟩=>⟨v,vs', F0,F1,h1,IoR.reZ (ZbD a.io _ hn).1 (ZbB a.io _ hv).1 h2,IoRs.reZ (ins:=r) (ZbD a.io _ hn).2 (ZbB a.io _ hv).2 h3,h4⟩
structure Puts (P:Program) (B Z:Nat->Prop) (w:World) (os:List (Nat×Ob)) (zl:List (Nat×Rzv)) (F:Nat->Prop):Prop where
 key:keys os=keys zl
 sub:∀T z,lk T zl=some z->∀k,z.F k->F k
 dis:∀T T' z z' k,T≠T' -> lk T zl=some z->lk T' zl=some z' -> z.F k->¬ z'.F k
 ors:∀ρ' : Rz,(∀T z,lk T zl=some z -> ρ' T=some z)->∀T o z,lk T os=some o->lk T zl=some z->OR P B ρ' Z w o z
theorem Puts.nil {F:Nat->Prop}:Puts P B Z w [] [] F:=⟨rfl,(λ _ _ h=>by cases h),(λ _ _ _ _ _ _ h=>by cases h),(λ _ _ _ _ _ h=>by cases h)⟩
theorem ZbZ {α : Type} {T:Nat} {x : α} {l:List (Nat × α)} (h:lk T l=some x):T∈keys l:=ZbA.2 (by rw[h];rfl)
theorem ZcX {α : Type} {T:Nat} {l:List (Nat × α)} (h:T ∉ keys l):lk T l=none:=by
 cases hl:lk T l with
 | none=>rfl
 | some x=>exact absurd (ZbZ hl) h
theorem Puts.append {o1 o2:List (Nat×Ob)} {z1 z2:List (Nat×Rzv)} {F1 F2 F:Nat->Prop} (h1:Puts P B Z w o1 z1 F1) (h2:Puts P B Z w o2 z2 F2) (hk:∀T∈keys z1,T ∉ keys z2) (s1:∀k,F1 k->F k) (s2:∀k,F2 k->F k) (hd:∀k,F1 k->¬ F2 k):Puts P B Z w (o1++o2) (z1++z2) F:=by
 have cut:∀T z,lk T (z1++z2)=some z->(lk T z1=some z)\/(T ∉ keys z1/\lk T z2=some z):=λ T z h=>by
  rw[ZbK]at h
  cases h3:lk T z1 with
  | some x=>rw[h3]at h;exact .inl h
  | none=>rw[h3]at h;exact .inr ⟨(λ hT=>by have:=ZbA.1 hT;rw[h3]at this;cases this),h⟩
 refine⟨by rw[Zbs,Zbs,h1.key,h2.key],λ T z h k hk => ?_,λ T T' z z' k hne h h' hk hk' => ?_,λ ρ' hρ T o z ho hz => ?_⟩
 ·
  rcases cut T z h with h|⟨_,h⟩
  ·exact s1 k (h1.sub T z h k hk)
  ·exact s2 k (h2.sub T z h k hk)
 ·
  rcases cut T z h with h|⟨_,h⟩ <;> rcases cut T' z' h' with h' | ⟨_,h'⟩
  ·exact h1.dis T T' z z' k hne h h' hk hk'
  ·exact hd k (h1.sub T z h k hk) (h2.sub T' z' h' k hk')
  ·exact hd k (h1.sub T' z' h' k hk') (h2.sub T z h k hk)
  ·exact h2.dis T T' z z' k hne h h' hk hk'
 ·
  have hp1:∀T z,lk T z1=some z -> ρ' T=some z:=λ T z h=>hρ T z (by rw[ZbK,h])
  have hp2:∀T z,lk T z2=some z -> ρ' T=some z:=λ T z h=>hρ T z (by rw[ZbK,ZcX (λ hT=>hk T hT (ZbZ h))];exact h)
  rcases cut T z hz with h|⟨hn,h⟩
  ·
   have:T∈keys o1:=by rw[h1.key];exact ZbZ h
   rw[ZbK]at ho
   cases h3:lk T o1 with
   | none=>have:=ZbA.1 this;rw[h3]at this;cases this
   | some x =>
    rw[h3]at ho
    cases ho
    exact h1.ors ρ' hp1 T _ z h3 h
  ·
   rw[ZbK,ZcX (show T ∉ keys o1 by rw[h1.key];exact hn)]at ho
   exact h2.ors ρ' hp2 T o z ho h
theorem Puts.one {T:Nat} {o:Ob} {z:Rzv} {F:Nat->Prop} (hF:∀k,z.F k->F k) (ho:∀ρ' : Rz,OR P B ρ' Z w o z):Puts P B Z w [(T,o)] [(T,z)] F:=by
 have h1:∀{α : Type} {x y : α} {U:Nat},lk U [(T,x)]=some y->U=T/\x=y:=by
  intro α x y U h
  by_cases hU:U=T
  ·subst hU;simp[lk]at h;exact⟨rfl,h⟩
  ·simp[lk,ZbM hU]at h
 refine⟨rfl,λ U z' h k hk => ?_,λ U U' z1 z2 k hne h h' => ?_,λ ρ' _ U o' z' h h' => ?_⟩
 ·obtain⟨_,rfl⟩:=h1 h;exact hF k hk
 ·exact absurd ((h1 h).1.trans (h1 h').1.symm) hne
 ·obtain⟨_,rfl⟩:=h1 h;obtain⟨_,rfl⟩:=h1 h';exact ho ρ'
theorem ZiZ {t:Ty} {x:t.den} {v:Value} {ρ : Rz} (h:Rep Z w false t x [v] λ _=>False):LR P B ρ Z w (lfOf t x) v/\(lfOf t x).ok=true:=by
 have h1:=ZdQ (P:=P) (B:=B) (ρ := ρ) t h;unfold lfOf
 cases t with
 | int k=>exact⟨h1.one_inv.elim λ v' hv=>by obtain⟨e,h2⟩:=hv;cases e;exact h2,rfl⟩
 | bool=>exact⟨h1.one_inv.elim λ v' hv=>by obtain⟨e,h2⟩:=hv;cases e;exact h2,rfl⟩
 | str=>exact⟨h1.one_inv.elim λ v' hv=>by obtain⟨e,h2⟩:=hv;cases e;exact h2,rfl⟩
 | raw=>exact⟨h1.one_inv.elim λ v' hv=>by obtain⟨e,h2⟩:=hv;cases e;exact h2,rfl⟩
 | sl e t=>exact⟨h1.one_inv.elim λ v' hv=>by obtain⟨e,h2⟩:=hv;cases e;exact h2,rfl⟩
 | pr a b =>
  have hl:=Rep.len _ h;have h2:=ZcF a;have h3:=ZcF b;have:(1:Nat)=a.size+b.size:=hl;omega
structure Range (zl:List (Nat×Rzv)) (nx n:Nat) (os:List (Nat×Ob)):Prop where
 lo:∀T∈keys zl,nx<=T/\T < n
 le:nx<=n
 len:n<=nx+os.length
 nd:nodup (keys zl)=true
theorem Zde {a b:List Nat} (ha:nodup a=true) (hb:nodup b=true) (hd:∀T∈a,T ∉ b):nodup (a++b)=true:=by
 induction a with
 | nil=>exact hb
 | cons n a ih =>
  simp only[nodup,Bool.and_eq_true,Bool.not_eq_true', List.contains_eq_mem,decide_eq_false_iff_not,List.cons_append,List.mem_append,not_or]at ha ⊢;exact⟨⟨ha.1,hd n List.mem_cons_self⟩,ih ha.2 λ T hT=>hd T (List.mem_cons_of_mem _ hT)⟩
theorem Range.append {z1 z2:List (Nat×Rzv)} {a b c:Nat} {o1 o2:List (Nat×Ob)} (h1:Range z1 a b o1) (h2:Range z2 b c o2):Range (z1++z2) a c (o1++o2):=by
 have e1:=h1.le;have e2:=h2.le;have e3:=h1.len;have e4:=h2.len
 refine⟨λ T hT => ?_,by omega,by rw[List.length_append];omega,?_⟩
 ·
  rw[Zbs]at hT;rcases List.mem_append.1 hT with hT|hT
  ·have:=h1.lo T hT;omega
  ·have:=h2.lo T hT;omega
 ·rw[Zbs];exact Zde h1.nd h2.nd λ T hT hT' => by have:=h1.lo T hT;have:=h2.lo T hT';omega
theorem Range.dis {z1 z2:List (Nat×Rzv)} {a b c:Nat} {o1 o2:List (Nat×Ob)} (h1:Range z1 a b o1) (h2:Range z2 b c o2):∀T∈keys z1,T ∉ keys z2:=λ T hT hT' => by have:=h1.lo T hT;have:=h2.lo T hT';omega
theorem Range.nil (nx:Nat):Range [] nx nx []:=⟨(λ _ h=>by cases h),Nat.le_refl _,Nat.le_refl _,rfl⟩
theorem Range.one (nx:Nat) (z:Rzv) (o:Ob):Range [(nx,z)] nx (nx+1) [(nx,o)]:=⟨λ T hT=>by have:T=nx:=List.mem_singleton.1 hT;omega,by omega,by simp,rfl⟩
theorem ZbG:∀(ss:List LS) (x:lsd ss) (vs:List Value) (F:Nat->Prop) (nx:Nat),LSRs P B Z w ss x vs F ->
  ∃zl,Puts P B Z w (mkLfs ss x nx).2.1 zl F/\Range zl nx (mkLfs ss x nx).2.2 (mkLfs ss x nx).2.1/\lfsOk (mkLfs ss x nx).1=true/\(mkLfs ss x nx).1.length=ss.length/\∀ρ' : Rz,(∀T z,lk T zl=some z -> ρ' T=some z)->LRs P B ρ' Z w (mkLfs ss x nx).1 vs
 | [],x,vs,F,nx,h=>⟨[],Puts.nil,Range.nil nx,rfl,rfl,λ ρ' _=>h⟩
 | .v t :: ss,x,_,F,nx,⟨v,vs', F0,F1,e,h2,h3,h4,h5,h6⟩=>by
  subst e;obtain⟨zl,k1,k2,k3,k4,k5⟩:=ZbG ss x.2 vs' F1 nx h3;refine⟨zl,⟨k1.key,λ T z h k hk=>h5 k (k1.sub T z h k hk),k1.dis,k1.ors⟩,k2,?_,?_,λ ρ' hρ => ⟨v,vs', rfl,(ZiZ h2).1,k5 ρ' hρ⟩⟩
  ·show((lfOf t x.1).ok && lfsOk (mkLfs ss x.2 nx).1)=true;rw[(ZiZ (P:=P) (B:=B) (ρ := λ _=>none) h2).2,k3];rfl
  ·show(mkLfs ss x.2 nx).1.length+1=ss.length+1;rw[k4]
 | .fn asx r :: ss,x,_,F,nx,⟨v,vs', F0,F1,e,h2,h3,h4,h5,h6⟩=>by
  subst e;obtain⟨zl,k1,k2,k3,k4,k5⟩:=ZbG ss x.2 vs' F1 nx h3;refine⟨zl,⟨k1.key,λ T z h k hk=>h5 k (k1.sub T z h k hk),k1.dis,k1.ors⟩,k2,?_,?_,λ ρ' hρ => ⟨v,vs', rfl,h2,k5 ρ' hρ⟩⟩
  ·show(true && lfsOk (mkLfs ss x.2 nx).1)=true;rw[k3];rfl
  ·show(mkLfs ss x.2 nx).1.length+1=ss.length+1;rw[k4]
 | .own e m t :: ss,x,_,F,nx,⟨v,vs', F0,F1,e1,h2,h3,h4,h5,h6⟩=>by
  subst e1;obtain⟨zl,k1,k2,k3,k4,k5⟩:=ZbG ss x.2 vs' F1 (nx+1) h3;have hone:v.oneCell' = true:=h2.elim λ inner hi=>Zdt hi.1
  have hR:=Range.one nx ⟨v,F0⟩ (.row e m t x.1);refine⟨(nx,⟨v,F0⟩) :: zl,Puts.append (o1:=[(nx,.row e m t x.1)]) (z1:=[(nx,⟨v,F0⟩)]) (Puts.one (F:=F0) (λ _ h=>h) λ ρ' => h2) k1 (hR.dis k2) h4 h5 h6,hR.append k2,k3,?_,λ ρ' hρ => ⟨v,vs', rfl,⟨⟨v,F0⟩,hρ nx _ (by simp[lk]),rfl,hone⟩,k5 ρ' λ T z h=>hρ T z ?_⟩⟩
  ·show(mkLfs ss x.2 (nx+1)).1.length+1=ss.length+1;rw[k4]
  ·have hT:=k2.lo T (ZbZ h);rw[show lk T ((nx,(⟨v,F0⟩:Rzv)) :: zl)=lk T zl by simp[lk,ZbM (show T≠nx by omega)]];exact h
theorem Zdr {α : Type} {T:Nat} {z : α} {a b:List (Nat × α)} (h:T ∉ keys a) (hz:lk T b=some z):lk T (a++b)=some z:=by rw[ZbK,ZcX h];exact hz
theorem Zf2 {α : Type} {T:Nat} {z : α} {a b:List (Nat × α)} (hz:lk T a=some z):lk T (a++b)=some z:=by rw[ZbK,hz]
theorem Zf1 {α : Type} (n:Nat) (a : α) (r:List (Nat × α)):lk n ((n,a) :: r)=some a:=by simp[lk]
theorem Puts.box {T:Nat} {t:TypeId} {os:List (Nat×Ob)} {zl:List (Nat×Rzv)} {ls:List Lf} {us:List Value} {g:Nat} {F F0:Nat->Prop} (h:Puts P B Z w os zl F) (hok:lfsOk ls=true) (hl:∀ρ' : Rz,(∀T z,lk T zl=some z -> ρ' T=some z)->LRs P B ρ' Z w ls us) (hg:w.heap[g]? = some (.cells us.toArray t (0,0))) (hgF:¬ F g) (h0:∀k,k=g->F0 k) (hs:∀k,F k->F0 k) (hT:T ∉ keys zl) :
  Puts P B Z w ((T,.box t false ls) :: os) ((T,⟨.pointer (some ⟨g,0,none⟩),λ k=>k=g⟩) :: zl) F0:=by
 have cut:∀{U:Nat} {z:Rzv},lk U ((T,(⟨.pointer (some ⟨g,0,none⟩),λ k=>k=g⟩:Rzv)) :: zl)=some z->(U=T/\z=⟨.pointer (some ⟨g,0,none⟩),λ k=>k=g⟩)\/(U≠T/\lk U zl=some z):=by
  intro U z h
  by_cases hU:U=T
  ·subst hU;simp[lk]at h;exact .inl ⟨rfl,h.symm⟩
  ·simp[lk,ZbM hU]at h;exact .inr ⟨hU,h⟩
 refine⟨by simp[keys,h.key],λ U z hz k hk => ?_,λ U U' z z' k hne hz hz' hk hk' => ?_,λ ρ' hρ U o z ho hz => ?_⟩
 ·
  rcases cut hz with ⟨_,rfl⟩|⟨_,hz⟩
  ·exact h0 k hk
  ·exact hs k (h.sub U z hz k hk)
 ·
  rcases cut hz with ⟨e,rfl⟩|⟨e,hy⟩ <;> rcases cut hz' with ⟨e', rfl⟩|⟨e', hy'⟩
  ·exact hne (e.trans e'.symm)
  ·have hk:k=g:=hk;subst hk;exact hgF (h.sub U' z' hy' k hk')
  ·have hk' : k=g:=hk';subst hk';exact hgF (h.sub U z hy k hk)
  ·exact h.dis U U' z z' k hne hy hy' hk hk'
 ·
  have hp:∀U z,lk U zl=some z -> ρ' U=some z:=λ U z hz=>hρ U z (by
   have hU:U≠T:=λ e=>hT (e ▸ ZbZ hz)
   simp only[lk,ZbM hU,cond_false];exact hz)
  rcases cut hz with ⟨rfl,rfl⟩|⟨e,hz⟩
  ·simp[lk]at ho;subst ho;exact⟨g,us,rfl,hg,hl ρ' hp,hok,λ _=>rfl,λ h=>by cases h⟩
  ·simp only[lk,ZbM e,cond_false]at ho;exact h.ors ρ' hp U o z ho hz
theorem Zcq:∀(outs:List ASh) (x:lsd (flats outs)) (us:List Value) (F:Nat->Prop) (nx:Nat),noRo outs=true->ASRs P B Z w outs x us F ->
  ∃zl,Puts P B Z w (ZdF outs x nx).2.1 zl F/\Range zl nx (ZdF outs x nx).2.2 (ZdF outs x nx).2.1/\(∀b ls,(b,ls)∈(ZdF outs x nx).1->b=false->ls.length=1)/\∀ρ' : Rz,(∀T z,lk T zl=some z -> ρ' T=some z)->TupR P B ρ' Z w (ZdF outs x nx).1 us
 | [],x,us,F,nx,_,h=>⟨[],Puts.nil,Range.nil nx,(λ _ _ h=>by cases h),λ ρ' _=>h⟩
 | .one s :: r,x,_,F,nx,hro,⟨v,vs', F0,F1,e,h2,h3,h4,h5,h6⟩=>by
  subst e;obtain⟨zl,k1,k2,k3,k4,k5⟩:=ZbG [s] (x.1,()) [v] F0 nx ⟨v,[],F0,λ _=>False,rfl,h2,rfl,λ _ h=>h,λ _ h=>h.elim,λ _ _ h=>h⟩;obtain⟨zl', m1,m2,m3,m4⟩:=Zcq r x.2 vs' F1 (mkLfs [s] (x.1,()) nx).2.2 hro h3;refine⟨zl++zl', Puts.append k1 m1 (k2.dis m2) h4 h5 h6,k2.append m2,λ b ls hm hb => ?_,λ ρ' hρ => ⟨v,vs', [v],rfl,k5 ρ' λ T z h=>hρ T z (by rw[ZbK,h]),rfl,m4 ρ' λ T z h=>hρ T z (by rw[ZbK,ZcX (λ hT=>k2.dis m2 T hT (ZbZ h))];exact h)⟩⟩;rcases List.mem_cons.1 hm with hm|hm
  ·cases hm;exact k4
  ·exact m3 b ls hm hb
 | .non :: r,x,_,F,nx,hro,⟨v,vs', F0,F1,e,h2,h3,h4,h5,h6⟩=>by
  subst e;obtain⟨zl', m1,m2,m3,m4⟩:=Zcq r x vs' F1 nx hro h3;refine⟨zl', ⟨m1.key,λ T z h k hk=>h5 k (m1.sub T z h k hk),m1.dis,m1.ors⟩,m2,λ b ls hm hb => ?_,λ ρ' hρ => ⟨v,vs', [v],rfl,⟨v,[],rfl,h2,rfl⟩,rfl,m4 ρ' hρ⟩⟩;rcases List.mem_cons.1 hm with hm|hm
  ·cases hm;rfl
  ·exact m3 b ls hm hb
 | .eat e' m' t' :: r,x,_,F,nx,hro,⟨v,vs', F0,F1,e,h2,h3,h4,h5,h6⟩=>by
  subst e;obtain⟨zl,k1,k2,k3,k4,k5⟩:=ZbG [.own e' m' t'] (x.1,()) [v] F0 nx ⟨v,[],F0,λ _=>False,rfl,h2,rfl,λ _ h=>h,λ _ h=>h.elim,λ _ _ h=>h⟩;obtain⟨zl', m1,m2,m3,m4⟩:=Zcq r x.2 vs' F1 (mkLfs [.own e' m' t'] (x.1,()) nx).2.2 hro h3;refine⟨zl++zl', Puts.append k1 m1 (k2.dis m2) h4 h5 h6,k2.append m2,λ b ls hm hb => ?_,λ ρ' hρ => ⟨v,vs', [v],rfl,k5 ρ' λ T z h=>hρ T z (by rw[ZbK,h]),rfl,m4 ρ' λ T z h=>hρ T z (by rw[ZbK,ZcX (λ hT=>k2.dis m2 T hT (ZbZ h))];exact h)⟩⟩;rcases List.mem_cons.1 hm with hm|hm
  ·cases hm;exact k4
  ·exact m3 b ls hm hb
 | .agg ss :: r,x,_,F,nx,hro,⟨v,vs', F0,F1,e,⟨us,e2,h2⟩,h3,h4,h5,h6⟩=>by
  subst e;obtain⟨zl,k1,k2,k3,k4,k5⟩:=ZbG ss (Zaf ss (flats r) x).1 us F0 nx h2;obtain⟨zl', m1,m2,m3,m4⟩:=Zcq r (Zaf ss (flats r) x).2 vs' F1 (mkLfs ss (Zaf ss (flats r) x).1 nx).2.2 hro h3;refine⟨zl++zl', Puts.append k1 m1 (k2.dis m2) h4 h5 h6,k2.append m2,λ b ls hm hb => ?_,λ ρ' hρ => ⟨v,vs', us,rfl,k5 ρ' λ T z h=>hρ T z (by rw[ZbK,h]),e2,m4 ρ' λ T z h=>hρ T z (by rw[ZbK,ZcX (λ hT=>k2.dis m2 T hT (ZbZ h))];exact h)⟩⟩;rcases List.mem_cons.1 hm with hm|hm
  ·cases hm;cases hb
  ·exact m3 b ls hm hb
 | .ptr true t ss :: r,x,_,F,nx,hro,h=>by cases hro
 | .ptr false t ss :: r,x,_,F,nx,hro,⟨v,vs', F0,F1,e,⟨g,us,F', e2,e3,h2,g1,g2,g3⟩,h3,h4,h5,h6⟩=>by
  subst e;subst e2;obtain⟨zl,k1,k2,k3,k4,k5⟩:=ZbG ss (Zaf ss (flats r) x).1 us F' (nx+1) h2;obtain⟨zl', m1,m2,m3,m4⟩:=Zcq r (Zaf ss (flats r) x).2 vs' F1 (mkLfs ss (Zaf ss (flats r) x).1 (nx+1)).2.2 hro h3;have hR:=Range.one nx ⟨.pointer (some ⟨g,0,none⟩),λ k=>k=g⟩ (.box t false (mkLfs ss (Zaf ss (flats r) x).1 (nx+1)).1);have hB:=Puts.box (T:=nx) (t:=t) k1 k3 k5 e3 g2 (F0:=F0) (λ k hk=>by cases hk;exact g1) g3 (λ hT=>hR.dis k2 nx (List.mem_singleton.2 rfl) hT);have hR2:=hR.append k2;refine⟨((nx,⟨.pointer (some ⟨g,0,none⟩),λ k=>k=g⟩) :: zl)++zl', Puts.append hB m1 (hR2.dis m2) h4 h5 h6,hR2.append m2,λ b ls hm hb => ?_,λ ρ' hρ => ⟨_,vs', [.pointer (some ⟨g,0,none⟩)],rfl,⟨_,[],rfl,⟨_,g,hρ nx _ (Zf1 _ _ _),rfl,rfl⟩,rfl⟩,rfl,m4 ρ' λ T z h=>hρ T z (Zdr (λ hT=>hR2.dis m2 T hT (ZbZ h)) h)⟩⟩;rcases List.mem_cons.1 hm with hm|hm
  ·cases hm;rfl
  ·exact m3 b ls hm hb
end
section
variable {P:Program} {B Z:Nat->Prop} {w:World} {ρ : Rz}
def Hdrs (ρ : Rz) (Ts:List Nat) (zl:List (Nat×Rzv)):Prop:=∀T z,lk T zl=some z->T∈Ts->∃z0,ρ T=some z0/\z0.hdr=z.hdr
theorem Zfn:∀(s:LS) (v:Value) (x:lsd s.back) (F:Nat->Prop) (Ts rest:List Nat),IoLS Z w s v x F->ZfH ρ s v Ts ->
  ∃zl,(ZcY s (Ts++rest) x).2=rest/\Puts P B Z w (ZcY s (Ts++rest) x).1 zl F/\keys zl=Ts/\Hdrs ρ Ts zl
 | .v t,v,x,F,Ts,rest,h,hb=>by
  cases hb
  exact⟨[],rfl,Puts.nil,rfl,λ _ _ h=>by cases h⟩
 | .fn asx r,v,x,F,Ts,rest,h,hb=>by
  cases hb
  exact⟨[],rfl,Puts.nil,rfl,λ _ _ h=>by cases h⟩
 | .own e m t,v,x,F,Ts,rest,h,hb=>by
  obtain⟨T,z,rfl,hz,hv⟩:=hb;refine⟨[(T,⟨v,F⟩)],rfl,Puts.one (λ _ h=>h) λ ρ' => h,rfl,λ U zu hU hUT => ?_⟩;obtain rfl:=List.mem_singleton.1 hUT;rw[Zf1]at hU
  cases hU
  exact⟨z,hz,hv⟩
theorem Hdrs.append {t1 t2:List Nat} {z1 z2:List (Nat×Rzv)} (k1:keys z1=t1) (h1:Hdrs ρ t1 z1) (h2:Hdrs ρ t2 z2) (hd:∀T∈t1,T ∉ t2):Hdrs ρ (t1++t2) (z1++z2):=λ T z hz hT=>by
 rw[ZbK]at hz
 cases h:lk T z1 with
 | some y =>
  rw[h]at hz
  cases hz
  exact h1 T _ h (k1 ▸ ZbZ h)
 | none =>
  rw[h]at hz;rcases List.mem_append.1 hT with hT|hT
  ·
   have:=ZbA.1 (show T∈keys z1 by rw[k1];exact hT)
   rw[h]at this;cases this
  ·exact h2 T z hz hT
theorem ZeH:∀(ss:List LS) (vs:List Value) (x:lsd (backs ss)) (F:Nat->Prop) (Ts rest:List Nat),IoLSs Z w ss vs x F->ZcP ρ ss vs Ts->nodup Ts=true ->
  ∃zl,(Zcl ss (Ts++rest) x).2=rest/\Puts P B Z w (Zcl ss (Ts++rest) x).1 zl F/\keys zl=Ts/\Hdrs ρ Ts zl
 | [],vs,x,F,Ts,rest,h,hb,hn=>by
  cases hb
  exact⟨[],rfl,Puts.nil,rfl,λ _ _ h=>by cases h⟩
 | s :: ss,vs,x,F,Ts,rest,⟨v,vs', F0,F1,e1,h2,h3,h4,h5,h6⟩,⟨v', vs'', t1,t2,e2,e3,b1,b2⟩,hn=>by
  subst e1
  cases e2
  subst e3;obtain⟨n1,n2,n3⟩:=nodup_append hn;obtain⟨z1,r1,p1,k1,d1⟩:=Zfn (P:=P) (B:=B) s v _ F0 t1 (t2++rest) h2 b1;obtain⟨z2,r2,p2,k2,d2⟩:=ZeH ss vs' _ F1 t2 rest h3 b2 n2;have e:Zcl (s :: ss) (t1++t2++rest) x=((ZcY s (t1++(t2++rest)) (Zaf s.back (backs ss) x).1).1++(Zcl ss (t2++rest) (Zaf s.back (backs ss) x).2).1,rest):=by rw[List.append_assoc];show((ZcY s (t1++(t2++rest)) (Zaf s.back (backs ss) x).1).1++(Zcl ss (ZcY s (t1++(t2++rest)) (Zaf s.back (backs ss) x).1).2 (Zaf s.back (backs ss) x).2).1,(Zcl ss (ZcY s (t1++(t2++rest)) (Zaf s.back (backs ss) x).1).2 (Zaf s.back (backs ss) x).2).2)=_;rw[r1,r2]
  rw[e];exact⟨z1++z2,rfl,Puts.append p1 p2 (by rw[k1,k2];exact n3) h4 h5 h6,by rw[Zbs,k1,k2],Hdrs.append k1 d1 d2 n3⟩
structure IoRange (zl:List (Nat×Rzv)) (Ts:List Nat) (nx n:Nat) (os:List (Nat×Ob)):Prop where
 lo:∀T∈keys zl,T∈Ts\/(nx<=T/\T < n)
 all:∀T∈Ts,T∈keys zl
 le:nx<=n
 len:n<=nx+os.length
 nd:nodup (keys zl)=true
theorem Zcn:∀(ins:List ASh) (vs:List Value) (x:lsd (ios ins)) (F:Nat->Prop) (Ts:List Nat) (nx:Nat),IoRs P B Z w ins vs x F->ZdA ρ ins vs Ts->nodup Ts=true->(∀T∈Ts,T < nx\/(mkIos ins Ts x nx).2<=T) ->
  ∃zl,Puts P B Z w (mkIos ins Ts x nx).1 zl F/\IoRange zl Ts nx (mkIos ins Ts x nx).2 (mkIos ins Ts x nx).1/\Hdrs ρ Ts zl
 | [],vs,x,F,Ts,nx,h,hb,hn,hfr=>by
  cases hb
  exact⟨[],Puts.nil,⟨(λ _ h=>by cases h),(λ _ h=>by cases h),Nat.le_refl _,Nat.le_refl _,rfl⟩,λ _ _ h=>by cases h⟩
 | .one s :: r,vs,x,F,Ts,nx,⟨v,vs', F0,F1,e1,h2,h3,h4,h5,h6⟩,⟨v', vs'', t1,t2,e2,e3,b1,b2⟩,hn,hfr=>by
  subst e1
  cases e2
  subst e3;obtain⟨n1,n2,n3⟩:=nodup_append hn;obtain⟨q,hq⟩:∃q:lsd s.back×lsd (ios r),q=Zaf s.back (ios r) x:=⟨_,rfl⟩
  have e:mkIos (.one s :: r) (t1++t2) x nx=((ZcY s (t1++t2) q.1).1++(mkIos r (ZcY s (t1++t2) q.1).2 q.2 nx).1,(mkIos r (ZcY s (t1++t2) q.1).2 q.2 nx).2):=by rw[hq];rfl
  have h2:IoLS Z w s v q.1 F0:=by rw[hq];exact h2
  have h3:IoRs P B Z w r vs' q.2 F1:=by rw[hq];exact h3
  clear hq
  obtain⟨z1,r1,p1,k1,d1⟩:=Zfn (P:=P) (B:=B) s v q.1 F0 t1 t2 h2 b1;rw[r1]at e;rw[e]at hfr ⊢;obtain⟨z2,p2,q2,d2⟩:=Zcn r vs' q.2 F1 t2 nx h3 b2 n2 (λ T hT=>hfr T (List.mem_append_right _ hT));have hkd:∀T∈keys z1,T ∉ keys z2:=λ T hT hT' => by
   rw[k1]at hT;rcases q2.lo T hT' with h|h
   ·exact n3 T hT h
   ·
    rcases hfr T (List.mem_append_left _ hT)with h' | h'
    ·omega
    ·have h' : (mkIos r t2 q.2 nx).2<=T:=h';omega
  refine⟨z1++z2,Puts.append p1 p2 hkd h4 h5 h6,⟨λ T hT => ?_,λ T hT => ?_,q2.le,?_,?_⟩,Hdrs.append k1 d1 ?_ n3⟩
  ·
   rw[Zbs,k1]at hT;rcases List.mem_append.1 hT with hT|hT
   ·exact .inl (List.mem_append_left _ hT)
   ·exact(q2.lo T hT).imp (List.mem_append_right _) id
  ·rw[Zbs,k1];exact(List.mem_append.1 hT).elim (List.mem_append_left _) λ h=>List.mem_append_right _ (q2.all T h)
  ·have:=q2.len;rw[List.length_append];show(mkIos r t2 q.2 nx).2<=_;omega
  ·rw[Zbs];exact Zde (by rw[k1];exact n1) q2.nd hkd
  ·exact d2
 | .agg ss :: r,vs,x,F,Ts,nx,⟨v,vs', F0,F1,e1,h2,h3,h4,h5,h6⟩,⟨v', vs'', t1,t2,e2,e3,b1,b2⟩,hn,hfr=>by
  subst e1
  cases e2
  subst e3;obtain⟨n1,n2,n3⟩:=nodup_append hn;obtain⟨us,rfl,h2⟩:=h2;obtain⟨us', e4,b1⟩:=b1;have e4:us=us' := by simpa using e4
  subst e4;obtain⟨q,hq⟩:∃q:lsd (backs ss)×lsd (ios r),q=Zaf (backs ss) (ios r) x:=⟨_,rfl⟩
  have e:mkIos (.agg ss :: r) (t1++t2) x nx=((Zcl ss (t1++t2) q.1).1++(mkIos r (Zcl ss (t1++t2) q.1).2 q.2 nx).1,(mkIos r (Zcl ss (t1++t2) q.1).2 q.2 nx).2):=by rw[hq];rfl
  have h2:IoLSs Z w ss us q.1 F0:=by rw[hq];exact h2
  have h3:IoRs P B Z w r vs' q.2 F1:=by rw[hq];exact h3
  clear hq
  obtain⟨z1,r1,p1,k1,d1⟩:=ZeH (P:=P) (B:=B) ss us q.1 F0 t1 t2 h2 b1 n1;rw[r1]at e;rw[e]at hfr ⊢;obtain⟨z2,p2,q2,d2⟩:=Zcn r vs' q.2 F1 t2 nx h3 b2 n2 (λ T hT=>hfr T (List.mem_append_right _ hT));have hkd:∀T∈keys z1,T ∉ keys z2:=λ T hT hT' => by
   rw[k1]at hT;rcases q2.lo T hT' with h|h
   ·exact n3 T hT h
   ·
    rcases hfr T (List.mem_append_left _ hT)with h' | h'
    ·omega
    ·have h' : (mkIos r t2 q.2 nx).2<=T:=h';omega
  refine⟨z1++z2,Puts.append p1 p2 hkd h4 h5 h6,⟨λ T hT => ?_,λ T hT => ?_,q2.le,?_,?_⟩,Hdrs.append k1 d1 ?_ n3⟩
  ·
   rw[Zbs,k1]at hT;rcases List.mem_append.1 hT with hT|hT
   ·exact .inl (List.mem_append_left _ hT)
   ·exact(q2.lo T hT).imp (List.mem_append_right _) id
  ·rw[Zbs,k1];exact(List.mem_append.1 hT).elim (List.mem_append_left _) λ h=>List.mem_append_right _ (q2.all T h)
  ·have:=q2.len;rw[List.length_append];show(mkIos r t2 q.2 nx).2<=_;omega
  ·rw[Zbs];exact Zde (by rw[k1];exact n1) q2.nd hkd
  ·exact d2
 | .ptr true t ss :: r,vs,x,F,Ts,nx,⟨v,vs', F0,F1,e1,h2,h3,h4,h5,h6⟩,⟨v', vs'', t1,t2,e2,e3,b1,b2⟩,hn,hfr=>by
  subst e1
  cases e2
  subst e3;have b1:t1=[]:=b1;subst b1;obtain⟨z2,p2,q2,d2⟩:=Zcn r vs' _ F1 t2 nx h3 b2 hn hfr;exact⟨z2,⟨p2.key,λ T z h k hk=>h5 k (p2.sub T z h k hk),p2.dis,p2.ors⟩,q2,d2⟩
 | .non :: r,vs,x,F,Ts,nx,⟨v,vs', F0,F1,e1,h2,h3,h4,h5,h6⟩,⟨v', vs'', t1,t2,e2,e3,b1,b2⟩,hn,hfr=>by
  subst e1
  cases e2
  subst e3;have b1:t1=[]:=b1;subst b1;obtain⟨z2,p2,q2,d2⟩:=Zcn r vs' _ F1 t2 nx h3 b2 hn hfr;exact⟨z2,⟨p2.key,λ T z h k hk=>h5 k (p2.sub T z h k hk),p2.dis,p2.ors⟩,q2,d2⟩
 | .eat _ _ _ :: r,vs,x,F,Ts,nx,⟨v,vs', F0,F1,e1,h2,h3,h4,h5,h6⟩,⟨v', vs'', t1,t2,e2,e3,b1,b2⟩,hn,hfr=>by
  subst e1
  cases e2
  subst e3;have b1:t1=[]:=b1;subst b1;obtain⟨z2,p2,q2,d2⟩:=Zcn r vs' _ F1 t2 nx h3 b2 hn hfr;exact⟨z2,⟨p2.key,λ T z h k hk=>h5 k (p2.sub T z h k hk),p2.dis,p2.ors⟩,q2,d2⟩
 | .ptr false t ss :: r,vs,x,F,Ts,nx,⟨v,vs', F0,F1,e1,h2,h3,h4,h5,h6⟩,⟨v', vs'', t1,t2,e2,e3,b1,b2⟩,hn,hfr=>by
  subst e1
  cases e2
  subst e3;obtain⟨T,z,rfl,hz,hv⟩:=b1;obtain⟨n1,n2,n3⟩:=nodup_append hn;obtain⟨q,hq⟩:∃q:lsd ss×lsd (ios r),q=Zaf ss (ios r) x:=⟨_,rfl⟩
  have e:mkIos (.ptr false t ss :: r) ([T]++t2) x nx=((T,.box t false (mkLfs ss q.1 nx).1) :: (mkLfs ss q.1 nx).2.1++(mkIos r t2 q.2 (mkLfs ss q.1 nx).2.2).1,(mkIos r t2 q.2 (mkLfs ss q.1 nx).2.2).2):=by rw[hq];rfl
  have h2:IoR P B Z w (.ptr false t ss) v q.1 F0:=by rw[hq];exact h2
  have h3:IoRs P B Z w r vs' q.2 F1:=by rw[hq];exact h3
  clear hq
  obtain⟨g,us,F', rfl,g1,h2,g2,g3,g4⟩:=h2;obtain⟨zl,k1,k2,k3,k4,k5⟩:=ZbG ss q.1 us F' nx h2;rw[e]at hfr ⊢;have kle:=k2.le;obtain⟨z2,p2,q2,d2⟩:=Zcn r vs' q.2 F1 t2 (mkLfs ss q.1 nx).2.2 h3 b2 n2 (λ U hU=>(hfr U (List.mem_append_right _ hU)).imp (λ h=>by omega) id);have qle:=q2.le;have hTr:=hfr T (List.mem_append_left _ (List.mem_singleton.2 rfl));have hTr:T < nx\/(mkIos r t2 q.2 (mkLfs ss q.1 nx).2.2).2<=T:=hTr;have hTz:T ∉ keys zl:=λ h=>by have:=k2.lo T h;omega
  have hB:=Puts.box (T:=T) (t:=t) k1 k3 k5 g1 g3 (F0:=F0) (λ k hk=>by cases hk;exact g2) g4 hTz
  have hkd:∀U∈keys ((T,(⟨.pointer (some ⟨g,0,none⟩),λ k=>k=g⟩:Rzv)) :: zl),U ∉ keys z2:=λ U hU hU' => by
   rcases List.mem_cons.1 hU with rfl|hU
   ·
    rcases q2.lo U hU' with h|h
    ·exact n3 U (List.mem_singleton.2 rfl) h
    ·omega
   ·
    have h1:=k2.lo U hU;rcases q2.lo U hU' with h|h
    ·have h3:=hfr U (List.mem_append_right _ h);have h3:U < nx\/(mkIos r t2 q.2 (mkLfs ss q.1 nx).2.2).2<=U:=h3;omega
    ·omega
  refine⟨(T,⟨.pointer (some ⟨g,0,none⟩),λ k=>k=g⟩) :: zl++z2,Puts.append hB p2 hkd h4 h5 h6,⟨λ U hU => ?_,λ U hU => ?_,?_,?_,?_⟩,λ U zu hU hUT => ?_⟩
  ·
   rw[Zbs]at hU;rcases List.mem_append.1 hU with hU|hU
   ·
    rcases List.mem_cons.1 hU with rfl|hU
    ·exact .inl (List.mem_cons_self)
    ·have h1:=k2.lo U hU;exact .inr ⟨h1.1,by show _ < (mkIos r t2 q.2 (mkLfs ss q.1 nx).2.2).2;omega⟩
   ·
    rcases q2.lo U hU with h|h
    ·exact .inl (List.mem_append_right _ h)
    ·exact .inr ⟨by omega,h.2⟩
  ·
   rw[Zbs];rcases List.mem_append.1 hU with hU|hU
   ·obtain rfl:=List.mem_singleton.1 hU;exact List.mem_append_left _ List.mem_cons_self
   ·exact List.mem_append_right _ (q2.all U hU)
  ·show nx<=(mkIos r t2 q.2 (mkLfs ss q.1 nx).2.2).2;omega
  ·have l1:=k2.len;have l2:=q2.len;rw[List.length_append,List.length_cons];show(mkIos r t2 q.2 (mkLfs ss q.1 nx).2.2).2<=_;omega
  ·rw[Zbs];exact Zde (Zde (a:=[T]) rfl k2.nd λ U hU hU' => by obtain rfl:=List.mem_singleton.1 hU;exact hTz hU') q2.nd hkd
  ·
   rcases List.mem_append.1 hUT with h|h
   ·
    obtain rfl:=List.mem_singleton.1 h;rw[List.cons_append,Zf1]at hU
    cases hU
    exact⟨z,hz,hv⟩
   ·
    rw[ZbK]at hU;have hUn:U ∉ keys ((T,(⟨.pointer (some ⟨g,0,none⟩),λ k=>k=g⟩:Rzv)) :: zl):=λ hin=>hkd U hin (q2.all U h)
    rw[ZcX hUn]at hU;exact d2 U zu hU h
end
theorem ZeI:∀(ss:List LS) (x:lsd ss) (nx:Nat),(mkLfs ss x nx).2.2<=nx+(mkLfs ss x nx).2.1.length
 | [],x,nx=>Nat.le_refl _
 | .v t :: ss,x,nx=>ZeI ss x.2 nx
 | .fn asx r :: ss,x,nx=>ZeI ss x.2 nx
 | .own e m t :: ss,x,nx=>by have:=ZeI ss x.2 (nx+1);show(mkLfs ss x.2 (nx+1)).2.2<=nx+((mkLfs ss x.2 (nx+1)).2.1.length+1);omega
theorem ZcZ:∀(ins:List ASh) (Ts:List Nat) (x:lsd (ios ins)) (nx:Nat),(mkIos ins Ts x nx).2<=nx+(mkIos ins Ts x nx).1.length
 | [],Ts,x,nx=>Nat.le_refl _
 | .one s :: r,Ts,x,nx=>by
  obtain⟨q,hq⟩:∃q:lsd s.back×lsd (ios r),q=Zaf s.back (ios r) x:=⟨_,rfl⟩
  have e:mkIos (.one s :: r) Ts x nx=((ZcY s Ts q.1).1++(mkIos r (ZcY s Ts q.1).2 q.2 nx).1,(mkIos r (ZcY s Ts q.1).2 q.2 nx).2):=by rw[hq];rfl
  rw[e];have:=ZcZ r (ZcY s Ts q.1).2 q.2 nx;simp only[List.length_append];omega
 | .agg ss :: r,Ts,x,nx=>by
  obtain⟨q,hq⟩:∃q:lsd (backs ss)×lsd (ios r),q=Zaf (backs ss) (ios r) x:=⟨_,rfl⟩
  have e:mkIos (.agg ss :: r) Ts x nx=((Zcl ss Ts q.1).1++(mkIos r (Zcl ss Ts q.1).2 q.2 nx).1,(mkIos r (Zcl ss Ts q.1).2 q.2 nx).2):=by rw[hq];rfl
  rw[e];have:=ZcZ r (Zcl ss Ts q.1).2 q.2 nx;simp only[List.length_append];omega
 | .ptr true t ss :: r,Ts,x,nx=>ZcZ r Ts x nx
 | .eat _ _ _ :: r,Ts,x,nx=>ZcZ r Ts x nx
 | .non :: r,Ts,x,nx=>ZcZ r Ts x nx
 | .ptr false t ss :: r,[],x,nx=>Nat.le_refl _
 | .ptr false t ss :: r,T :: Ts,x,nx=>by
  obtain⟨q,hq⟩:∃q:lsd ss×lsd (ios r),q=Zaf ss (ios r) x:=⟨_,rfl⟩
  have e:mkIos (.ptr false t ss :: r) (T :: Ts) x nx=((T,.box t false (mkLfs ss q.1 nx).1) :: (mkLfs ss q.1 nx).2.1++(mkIos r Ts q.2 (mkLfs ss q.1 nx).2.2).1,(mkIos r Ts q.2 (mkLfs ss q.1 nx).2.2).2):=by rw[hq];rfl
  rw[e];have h1:=ZeI ss q.1 nx;have h2:=ZcZ r Ts q.2 (mkLfs ss q.1 nx).2.2;simp only[List.length_append,List.length_cons];omega
section
variable {P:Program} {B Z:Nat->Prop} {ρ : Rz} {ob:List (Nat×Ob)} {w w' : World} {β : Type} {KK:Eff->List Nat->Option β} {nd:List Nat} {r : β}
theorem Zm6 {ρ' : Rz} {vs:List (Bool×List Lf)} {us:List Value} (h:TupR P B ρ' Z w' vs us) (h1:∀b ls,(b,ls)∈vs->b=false->ls.length=1):AR P B ρ' Z w' (outAV vs) (outV us):=by
 rcases vs with _|⟨⟨b,ls⟩,vs⟩
 ·
  cases h
  exact⟨[],rfl,rfl⟩
 ·
  obtain⟨v,vs', cs,rfl,h2,h3,h4⟩:=h;rcases vs with _|⟨⟨b', ls'⟩,vs⟩
  ·
   cases h4
   cases b with
   | true=>exact⟨cs,h3,h2⟩
   | false =>
    have hl:=h1 false ls List.mem_cons_self rfl;have h3:cs=[v]:=h3;subst h3;rcases ls with _|⟨l,_|⟨l', ls⟩⟩
    ·cases hl
    ·
     obtain⟨v', e,hv⟩:=h2.one_inv
     cases e
     exact hv
    ·simp at hl
  ·
   obtain⟨v2,vs2,cs2,rfl,h5,h6,h7⟩:=h4;have e:outAV ((b,ls) :: (b', ls') :: vs) = .tup ((b,ls) :: (b', ls') :: vs):=by
    unfold outAV
    split
    ·rename_i h;cases h
    ·rename_i h;cases h
    ·rfl
   rw[e];exact⟨v :: v2 :: vs2,rfl,⟨v,_,cs,rfl,h2,h3,⟨v2,vs2,cs2,rfl,h5,h6,h7⟩⟩⟩
def updL (ρ : Rz) (zl:List (Nat×Rzv)):Rz:=λ T=>match lk T zl with
 | some z=>some z
 | none => ρ T
theorem ZkM {E:Env} (hE:ZdB P E.con) (hm:Mem P B ρ Z (look ob) w) {g:FuncId} {c:Con} (hc:Valid P g c) {nx:Nat} {avs:List AV} {vs:List Value} (h:(pCon E nx c avs).run ob KK nd=some r) (hvs:AVs P B ρ Z w avs vs) :
  ∃e nd', KK e nd' = some r/\((∀T,nx<=T->T < nx+e.add.length -> ρ T=none)->Calls P g vs.toArray w λ en w' => ∃v,en = .returned v/\Done P B ρ Z ob w e v w'):=by
 unfold pCon at h;obtain⟨x,sl,nd1,h,hargs,hal,hback⟩:=Zcy hE hm c.ins avs vs nd _ h hvs;rw[ZaO,Zhz]at h;obtain⟨hck,r0,hyz,h⟩:=h;have hcv:=hc.2 x r0 hyz
 generalize c.dec r0=yz at h hcv
 simp only[Bool.and_eq_true]at hck;obtain⟨⟨⟨⟨⟨⟨hnd,hap⟩,hapb⟩,hfo⟩,hfi⟩,hro⟩,hview⟩:=hck;obtain⟨os,n,hio⟩:∃os n,mkIos c.ins sl.back yz.2 nx=(os,n):=⟨_,_,rfl⟩
 obtain⟨rvs,os', n2,hou⟩:∃rvs os' n2,ZdF c.outs yz.1 n=(rvs,os', n2):=⟨_,_,_,rfl⟩
 rw[hio]at h;simp only[hou]at h;refine⟨_,nd1,h,λ hfr => ?_⟩;have hlenio:n<=nx+os.length:=by have:=ZcZ c.ins sl.back yz.2 nx;rw[hio]at this;exact this
 have hS:∀k,Of ρ (sl.back++sl.gone) k->Own ρ (look ob) k:=λ k hk=>hk.own (hal.back.append hal.gone)
 have apart_spec:∀{a b:List Nat},apart a b=true->∀T∈a,T ∉ b:=λ {a b} h T hT hT' => by unfold apart at h;rw[List.all_eq_true]at h;have:=h T hT;simp at this;exact this hT'
 refine(hcv _ _ _ w vs (hargs hnd) (λ k hk=>⟨λ hz => ?_,λ hb => ?_,(hm.zsep k (hS k hk)).2⟩) (λ k hk=>hk.elim (hm.zlt k) λ h=>(hm.zsep k (h.own hal.lent)).2) (λ k hk=>hk.elim (hm.blt k) λ h=>(hm.zsep k (h.own hal.box)).2)).mono ?_
 ·
  rcases hz with hz|hz
  ·exact(hm.zsep k (hS k hk)).1 hz
  ·exact Of.sep hm hal.lent (hal.back.append hal.gone) (apart_spec hap) hz hk
 ·
  rcases hb with hb|hb
  ·exact hm.bsep k (hS k hk) hb
  ·exact Of.sep hm hal.box (hal.back.append hal.gone) (apart_spec hapb) hb hk
 ·
  rintro en w' ⟨u,rfl,Z', Fi,Fo,hp⟩;refine⟨u,rfl,?_⟩;obtain ⟨Z2,hz1,hz2,hz3,hio2,us,hu,hou2⟩:∃Z2:Nat->Prop,(∀k,Z k->Z2 k)/\(∀k,Z2 k->Z' k)/\(∀k,Z2 k->(Z k\/Of ρ (sl.back++sl.gone) k\/w.heap.size<=k)/\k < w'.heap.size)/\IoRs P B Z2 w' c.ins vs yz.2 Fi/\∃us,u=outV us/\ASRs P B Z2 w' c.outs yz.1 us Fo:=by
   obtain⟨us,hu,hr⟩:=hp.out
   by_cases hl:sl.lent=[]
   ·refine⟨Z', λ k hk=>hp.zm k (.inl hk),λ _ h=>h,λ k hk => ?_,IoRs.re hfi hp.io,us,hu,ASRs.re hfo hro hr⟩;obtain⟨h1,h2⟩:=hp.zn k hk;refine⟨h1.elim (λ h=>h.elim .inl λ h => ?_) .inr,h2⟩;rw[hl]at h;exact h.elim λ T hT=>hT.elim λ z hz=>by cases hz.1
   ·
    have hv:(!(Zci (flats c.outs)) && !(Zci (ios c.ins)))=true:=by rw[Bool.or_eq_true]at hview;exact hview.resolve_left λ h=>hl (by simpa using h)
    simp only[Bool.and_eq_true,Bool.not_eq_true']at hv;exact⟨Z,λ _ h=>h,λ k hk=>hp.zm k (.inl hk),λ k hk=>⟨.inl hk,Nat.lt_of_lt_of_le (hm.zlt k hk) hp.size⟩,IoRs.reZ hfi hv.2 (IoRs.re hfi hp.io),us,hu,ASRs.reZ hfo hv.1 (ASRs.re hfo hro hr)⟩
  have hTs:∀T∈sl.back,∃z,ρ T=some z:=λ T hT=>by
   have:=hal.back T hT
   cases ho:lk T ob with
   | none=>rw[ho]at this;cases this
   | some o =>
    obtain⟨z,hz,_⟩:=hm.obj T o ho;exact⟨z,hz⟩
  have hTfr:∀T∈sl.back,¬ (nx<=T/\T < nx+(os++os').length):=λ T hT ⟨h1,h2⟩=>by
   obtain⟨z,hz⟩:=hTs T hT;rw[hfr T h1 h2]at hz
   cases hz
  have hln:(os++os').length=os.length+os'.length:=List.length_append;obtain⟨nb,ng,nbg⟩:=nodup_append hnd;obtain⟨z1,p1,q1,d1⟩:=Zcn (P:=P) (B:=B) (ρ := ρ) c.ins vs yz.2 Fi sl.back nx hio2 hback nb (λ T hT=>by rw[hio];have:=hTfr T hT;show T < nx\/n<=T;omega)
  rw[hio]at p1 q1;obtain⟨z2,p2,q2,l2,t2⟩:=Zcq (P:=P) (B:=B) c.outs yz.1 us Fo n hro hou2;rw[hou]at p2 q2 l2 t2;have q2len:=q2.len;have q2le:=q2.le;have q1le:=q1.le;have hkd:∀T∈keys z1,T ∉ keys z2:=λ T hT hT' => by
   have h2:=q2.lo T hT';have h2:n<=T/\T < n2:=h2;rcases q1.lo T hT with h|h
   ·have:=hTfr T h;have q2len:n2<=n+os'.length:=q2len;omega
   ·have h:nx<=T/\T < n:=h;omega
  have hPuts:=Puts.append (F:=λ k=>Fi k\/Fo k) p1 p2 hkd (λ k hk => .inl hk) (λ k hk => .inr hk) hp.dis;have hkeys:∀T∈keys (z1++z2),T∈sl.back\/(nx<=T/\T < nx+(os++os').length):=λ T hT=>by
   rw[Zbs]at hT;have q2len:n2<=n+os'.length:=q2len;rcases List.mem_append.1 hT with hT|hT
   ·
    rcases q1.lo T hT with h|h
    ·exact .inl h
    ·have h:nx<=T/\T < n:=h;exact .inr (by omega)
   ·have h:=q2.lo T hT;have h:n<=T/\T < n2:=h;have q1le:nx<=n:=q1le;exact .inr (by omega)
  have hgone:∀T∈sl.gone,T ∉ keys (z1++z2):=λ T hT hT' => by
   rcases hkeys T hT' with h|⟨h1,h2⟩
   ·exact nbg T h hT
   ·have:=hal.gone T hT;exact Zel hm (hfr T h1 h2) this
  have hkos:keys (os++os')=keys (z1++z2):=hPuts.key;have hndk:nodup (keys (os++os'))=true:=by rw[hkos,Zbs];exact Zde q1.nd q2.nd hkd
  have hlk:∀T,look (pts (os++os') (rms sl.gone ob)) T=match lk T (os++os')with|some o=>some o|none=>if T∈sl.gone then none else lk T ob:=λ T=>by
   show lk T _=_;rw[ZdS T _ _ hndk,Zca]
   cases lk T (os++os') <;> rfl
  have hρ : ∀T z,lk T (z1++z2)=some z->updL ρ (z1++z2) T=some z:=λ T z hz=>by unfold updL;rw[hz]
  have hρn:∀T,T ∉ keys (z1++z2)->updL ρ (z1++z2) T = ρ T:=λ T hT=>by unfold updL;rw[ZcX hT]
  have hhdr:∀T z0,ρ T=some z0->∃z', updL ρ (z1++z2) T=some z' /\ z'.hdr=z0.hdr:=λ T z0 hz0=>by
   by_cases hT:T∈keys (z1++z2)
   ·
    rcases hkeys T hT with h|⟨h1,h2⟩
    ·
     have hT1:T∈keys z1:=q1.all T h
     cases hz:lk T z1 with
     | none=>have:=ZbA.1 hT1;rw[hz]at this;cases this
     | some z =>
      obtain⟨z0', hz0', hh⟩:=d1 T z hz h;rw[hz0]at hz0'
      cases hz0'
      exact⟨z,hρ T z (Zf2 hz),hh.symm⟩
    ·rw[hfr T h1 h2]at hz0;cases hz0
   ·exact⟨z0,(hρn T hT).trans hz0,rfl⟩
  have hold:∀k,k < w.heap.size->¬ Of ρ (sl.back++sl.gone) k->w'.heap[k]? = w.heap[k]? := hp.old;have hZs:ZbL Z w w' := λ k hk=>hold k (hm.zlt k hk) λ h=>(hm.zsep k (hS k h)).1 hk
  have hBs:ZbL B w w' := λ k hk=>hold k (hm.blt k hk) λ h=>hm.bsep k (hS k h) hk
  have hfut:Fut B ρ Z w (updL ρ (z1++z2)) Z2 w' := ⟨hz1,hZs,hBs,hhdr⟩;have stay:∀T z,T ∉ keys (z1++z2)->(look (pts (os++os') (rms sl.gone ob)) T).isSome=true -> ρ T=some z->(lk T ob).isSome=true/\∀k,z.F k->k < w.heap.size/\¬ Z k/\¬ Of ρ (sl.back++sl.gone) k:=λ T z hT hs hz=>by
   rw[hlk,ZcX (show T ∉ keys (os++os')by rw[hkos];exact hT)]at hs
   by_cases hg:T∈sl.gone
   ·rw[if_pos hg]at hs;cases hs
   ·
    rw[if_neg hg]at hs;refine⟨hs,λ k hk=>⟨(hm.zsep k ⟨T,z,hs,hz,hk⟩).2,(hm.zsep k ⟨T,z,hs,hz,hk⟩).1,λ⟨U,zu,h1,h2,h3⟩ => ?_⟩⟩;refine hm.sep T U z zu k (λ e => ?_) hs (hal.back.append hal.gone U h1) hz h2 hk h3;subst e;rcases List.mem_append.1 h1 with h1|h1
    ·exact hT (by rw[Zbs];exact List.mem_append_left _ (q1.all T h1))
    ·exact hg h1
  have hmem:Mem P B (updL ρ (z1++z2)) Z2 (look (pts (os++os') (rms sl.gone ob))) w' := by
   refine Zia hm (λ T=>T∈keys (z1++z2)) hfut (λ T hT => ?_) hρn (λ T z hT hs hz => ?_) (λ T o hT ho => ?_) (λ T z k hT hs hz hk => ?_) hp.size (λ k hk=>(hz3 k hk).2)
   ·
    rw[hlk,ZcX (show T ∉ keys (os++os')by rw[hkos];exact hT)]
    by_cases hg:T∈sl.gone
    ·exact .inr (if_pos hg)
    ·exact .inl (if_neg hg)
   ·
    obtain⟨_,h2⟩:=stay T z hT hs hz;refine⟨λ k hk=>hold k (h2 k hk).1 (h2 k hk).2.2,λ k hk hk2 => ?_⟩;rcases(hz3 k hk2).1 with h|h|h
    ·exact(h2 k hk).2.1 h
    ·exact(h2 k hk).2.2 h
    ·have:=(h2 k hk).1;omega
   ·
    rw[hlk]at ho;have hT' : T∈keys (os++os'):=by rw[hkos];exact hT
    cases h1:lk T (os++os')with
    | none=>have:=ZbA.1 hT';rw[h1]at this;cases this
    | some o' =>
     rw[h1]at ho
     cases ho
     cases h2:lk T (z1++z2)with
     | none=>have:=ZbA.1 hT;rw[h2]at this;cases this
     | some z=>exact⟨z,hρ T z h2,hPuts.ors _ hρ T _ z h1 h2⟩
   ·
    cases h2:lk T (z1++z2)with
    | none=>have:=ZbA.1 hT;rw[h2]at this;cases this
    | some z' =>
     have e:=hρ T z' h2;rw[hz]at e
     cases e
     have hF:=hPuts.sub T z h2 k hk;obtain⟨n1,n2', n3⟩:=hp.new k hF;refine⟨n2', ⟨λ hk2=>n3 (hz2 k hk2),λ hb => ?_⟩,λ T' z' hne hs' hz' hk' => ?_⟩
     ·
      rcases n1 with n1|n1
      ·exact hm.bsep k (hS k n1) hb
      ·have:=hm.blt k hb;omega
     ·
      by_cases hT' : T' ∈ keys (z1++z2)
      ·
       cases h3:lk T' (z1++z2)with
       | none=>have:=ZbA.1 hT';rw[h3]at this;cases this
       | some z'' =>
        have e:=hρ T' z'' h3;rw[hz']at e
        cases e
        exact hPuts.dis T T' z z' k (Ne.symm hne) h2 h3 hk hk'
      ·
       obtain⟨_,h4⟩:=stay T' z' hT' hs' ((hρn T' hT').symm.trans hz');rcases n1 with n1|n1
       ·exact(h4 k hk').2.2 n1
       ·have:=(h4 k hk').1;omega
  refine⟨_,Z2,hmem,⟨hp.os,hp.tape,hp.output,hp.size,λ k hk hno=>hold k hk λ h=>hno (hS k h),λ k hk => ?_,λ k hk => ?_,hz1,hhdr⟩,?_,λ T h1 h2 => ?_⟩
  ·
   obtain⟨T,z,hs,hz,hk⟩:=hk
   by_cases hT:T∈keys (z1++z2)
   ·
    cases h2:lk T (z1++z2)with
    | none=>have:=ZbA.1 hT;rw[h2]at this;cases this
    | some z' =>
     have e:=hρ T z' h2;rw[hz]at e
     cases e
     exact(hp.new k (hPuts.sub T z h2 k hk)).1.imp (hS k) id
   ·exact .inl ⟨T,z,(stay T z hT hs ((hρn T hT).symm.trans hz)).1,(hρn T hT).symm.trans hz,hk⟩
  ·exact(hz3 k hk).1.imp id λ h=>h.imp (hS k) id
  ·rw[hu];exact Zm6 (t2 _ λ T z h=>hρ T z (Zdr (λ hT=>hkd T hT (ZbZ h)) h)) l2
  ·
   rw[hρn T (by rw[<-hkos];exact h2)]
   exact h1
end
section
variable {P:Program} {B:Nat->Prop} {ρ : Rz} {Z:Nat->Prop} {ob:List (Nat×Ob)} {w:World} {β : Type} {KK:Eff->List Nat->Option β} {nd:List Nat} {r : β}
theorem ZeL (hm:Mem P B ρ Z (look ob) w) {E:Env} (hE:TtOk P E.tt) {nx:Nat} {t:TypeId} {lo hi:Option AV} {vlo vhi:Option Value} {x:AV} {vx:Value} (h:(Zhm E nx t lo hi x).run ob KK nd=some r) (hx:AR P B ρ Z w x vx)
  (hlo:(lo=none/\vlo=none)\/∃a v,lo=some a/\vlo=some v/\AR P B ρ Z w a v) (hhi:(hi=none/\vhi=none)\/∃a v,hi=some a/\vhi=some v/\AR P B ρ Z w a v):SaysF P B ρ Z ob w KK r nx (Instr.sliceAt t vx vlo vhi none):=by
 unfold Zhm at h
 split at h
 ·
  rename_i T
  split at h
  ·
   rename_i i hi'
   split at h
   ·
    rename_i e hk
    have hu:P.underlying t=some (.slice e):=by have:=(hE t i hi').kind;rw[hk]at this;exact this
    have hel:P.elem t=e:=by simp[Program.elem,hu]
    have hue:P.underlying t=some (.slice (P.elem t)):=by rw[hel];exact hu
    split at h
    ·
     rename_i ie hie
     rw[Zbu]at h;obtain⟨o,ho,h⟩:=h
     split at h
     ·
      rename_i e' m k xs
      rw[ZaO,ZZ]at h;obtain⟨hc,hpos,h⟩:=h;simp only[Bool.and_eq_true]at hc;obtain⟨hc1,hc2⟩:=hc;have hc1:=Nat.eq_of_beq_eq_true hc1;have hc2:=Nat.eq_of_beq_eq_true hc2;subst hc1;have hse:∀w,(sizeOf (P.elem t)).run P w = .ok 1 w:=λ w=>by rw[hel,Zce (hE _ ie hie),hc2]
      obtain⟨z,hz,inner,hown,hb,Fs,hel2,hsub,hdis⟩:=hm.obj T _ ho;obtain⟨z', hz', rfl,hone⟩:=hx;rw[hz]at hz'
      cases hz'
      have hlen:0 < (List.length (α := Int) xs):=by omega
      have hil:inner.length=List.length (α := Int) xs*1:=hown.1;rcases hown.2 with ⟨_,h0⟩|⟨g,cap,cur,hv,hb0,hg,hnc,hcm,hcs,htake⟩
      ·have h0:List.length (α := Int) xs=0:=h0;omega
      ·
       have hnc:List.length (α := Int) xs<=cap:=hnc;have hv:z.hdr = .slice (some ⟨g,0,none⟩) (List.length (α := Int) xs) cap:=hv;rw[hv]
       split at h
       ·
        rename_i n h1 h2
        have e1:=ZbS h1;obtain⟨kk,e2⟩:=Zb7 h2;obtain⟨_,rfl⟩:lo=none/\vlo=none:=hlo.elim id λ⟨a,v,h,_⟩=>by rw[e1]at h;cases h
        obtain⟨a,v,ha,rfl,hav⟩:=hhi.resolve_left λ h=>by rw[e2]at h;cases h.1
        rw[e2]at ha
        cases ha
        cases hav
        rw[ZZ,ZZ]at h;obtain⟨g0,g1,h⟩:=h;have hyl:(List.take (α := Int) n.toNat xs).length=n.toNat:=by rw[List.length_take];omega
        refine⟨_,_,h,λ hnx=>⟨.slice (some ⟨g,0,none⟩) n.toNat cap,w,?_,?_⟩⟩
        ·
         rw[run_sliceAt_slice (P:=P) (w:=w) t _ _ _ _ hue,run_slice_h (P:=P) w t _ _ cap hue kk n g0 (by omega),hse];simp only[Result.andThen,sliced];have hc0:¬ cap=0:=by omega
         simp[hc0,Addr.add]
        ·
         have hn:=hnx nx (Nat.le_refl _) (by simp);have hTn:nx ∉ [T]:=λ q=>by
          rw[List.mem_singleton]at q;subst q;rw[hz]at hn
          cases hn
         have hal:Alive ob [T]:=λ U hU=>by rw[List.mem_singleton]at hU;subst hU;rw[ho];rfl
         have hOf:∀q,z.F q->Of ρ [T] q:=λ q hq=>⟨T,z,List.mem_singleton.2 rfl,hz,hq⟩
         have hFg:z.F g:=hb g (by rw[hv];rfl)
         refine ZcL hm hn (t := .int k) (ys:=List.take (α := Int) n.toNat xs) (inner:=inner.take n.toNat) rfl hal hTn ⟨?_,.inr ⟨g,cap,cur,?_,hb0,hg,?_,hcm,hcs,?_⟩⟩ (λ q hq => ?_) rfl rfl rfl (Nat.le_refl _) (λ _ _ _=>rfl) Fs (λ j p hp => ?_) (λ j q hq=>⟨hOf q (hsub j q hq).1,λ hh => ?_⟩) hdis
         ·show(inner.take n.toNat).length=(List.take (α := Int) n.toNat xs).length*1;rw[hyl,List.length_take];omega
         ·show _=Value.slice (some ⟨g,0,none⟩) (List.take (α := Int) n.toNat xs).length cap;rw[hyl]
         ·show(List.take (α := Int) n.toNat xs).length<=cap;rw[hyl];omega
         ·
          show cur.toList.take ((List.take (α := Int) n.toNat xs).length*1)=inner.take n.toNat;have htake:cur.toList.take (List.length (α := Int) xs*1)=inner:=htake;rw[hyl,<-htake,List.take_take]
          congr 1
          omega
         ·exact .inl (hOf q (by cases hq;exact hFg))
         ·
          have hp:(List.take (α := Int) n.toNat xs)[j]? = some p:=hp;rw[List.getElem?_take]at hp
          split at hp
          ·
           rename_i hj
           have:=hel2 j p hp;have e:((inner.take n.toNat).drop (j*1)).take 1=(inner.drop (j*1)).take 1:=by
            rw[List.drop_take,List.take_take]
            congr 1
            omega
           show Rep Z w m (.int k) p (((inner.take n.toNat).drop (j*1)).take 1) (Fs j);rw[e];exact this
          ·cases hp
         ·refine(hsub j q hq).2 ?_;rw[hv];exact hh
       ·
        rename_i n h1 h2
        have e2:=ZbS h2;obtain⟨kk,e1⟩:=Zb7 h1;obtain⟨_,rfl⟩:hi=none/\vhi=none:=hhi.elim id λ⟨a,v,h,_⟩=>by rw[e2]at h;cases h
        obtain⟨a,v,ha,rfl,hav⟩:=hlo.resolve_left λ h=>by rw[e1]at h;cases h.1
        rw[e1]at ha
        cases ha
        cases hav
        rw[ZZ,ZZ]at h;obtain⟨g0,g1,h⟩:=h;refine(Z7 hm h (v:=sliced (some ⟨g,0,none⟩) n.toNat (List.length (α := Int) xs) cap 1) ?_ ⟨z,g,_,cap,hz,hv,by omega,rfl⟩).f nx;rw[run_sliceAt_slice (P:=P) (w:=w) t _ _ _ _ hue,run_slice_l (P:=P) w t _ _ cap hue kk n g0 g1,hse]
        rfl
       ·cases h
     ·cases h
    ·cases h
   ·cases h
  ·cases h
 ·exact(Zim hm hE h hx hlo hhi).f nx
theorem ZcN (k:IntKind) (n:Nat):(Builtin.zeroCells #[.int k 0] n).toList=List.replicate n (.int k 0):=by
 unfold Builtin.zeroCells
 apply List.ext_getElem
 ·simp
 ·intro i h1 h2;simp[Nat.mod_one]
theorem Zgp (v:Value) (n:Nat):(Builtin.zeroCells #[v] n).toList=List.replicate n v:=by
 unfold Builtin.zeroCells
 apply List.ext_getElem
 ·simp
 ·intro i h1 h2;simp[Nat.mod_one]
theorem Zif (hm:Mem P B ρ Z (look ob) w) {E:Env} (hE:TtOk P E.tt) {t ty:TypeId} {x:AV} {vx:Value} (h:(ZlU E t x).run ob KK nd=some r) (hx:AR P B ρ Z w x vx) :
  ∃e nd', KK e nd' = some r/\∃w', (Builtin.clear_ #[t] ty #[vx]).run P w = .ok (.tuple #[]) w' /\ Done P B ρ Z ob w e (.tuple #[]) w' := by
 unfold ZlU at h
 split at h
 ·
  rename_i T j
  split at h
  ·
   rename_i i hi'
   split at h
   ·
    rename_i e hk
    have hu:P.underlying t=some (.slice e):=by have:=(hE t i hi').kind;rw[hk]at this;exact this
    split at h
    ·
     rename_i ie hie
     rw[Zbu]at h;obtain⟨o,ho,h⟩:=h
     split at h
     ·
      rename_i e' m k xs
      rw[ZaO]at h;obtain⟨hc,h⟩:=h;simp only[Bool.and_eq_true]at hc;obtain⟨⟨hc1,hc2⟩,hc3⟩:=hc;have hc1:=Nat.eq_of_beq_eq_true hc1;have hc2:=Nat.eq_of_beq_eq_true hc2;subst hc1;obtain⟨z,hz,inner,hown,hb,Fs,hel2,hsub,hdis⟩:=hm.obj T _ ho;obtain⟨z', g,n,cap,hz', hg', hjn,rfl⟩:=hx;rw[hz]at hz'
      cases hz'
      have hil:inner.length=List.length (α := Int) xs*1:=hown.1;rcases hown.2 with ⟨hv,_⟩|⟨g2,cap2,cur,hv,hb0,hg,hnc,hcm,hcs,htake⟩
      ·rw[hg']at hv;cases hv
      rw[hg']at hv
      cases hv
      have hnc:List.length (α := Int) xs<=cap:=hnc;have hjn:j<=List.length (α := Int) xs:=hjn;have hcs:cur.size=cap*1:=hcs;have htake:cur.toList.take (List.length (α := Int) xs*1)=inner:=htake;have hFg:z.F g:=hb g (by rw[hg'];rfl);have hz0:∃zz,(zeroValue e').run P w = .ok zz w/\zz.cells = #[.int k 0]:=by
       obtain⟨info,i1,i2,i3,i4⟩:=(hE e' ie hie).info;have hzz:ie.zero=[.int k 0]:=by
        match hq:ie.zero,hc3 with
        | [.int k' n'],hc3 =>
         simp only[Znx,Bool.and_eq_true]at hc3;have hk' := ZeE hc3.1;have hn' := of_decide_eq_true hc3.2;subst hk' hn'
         rfl
       obtain⟨zz,j1,j2,_⟩:=i4 (by rw[hzz,hc2];rfl) (by omega)
       have hzc:zz.cells.toList=[.int k 0]:=by
        have h5:=(ZbW (P:=P) (B:=B) (ρ := ρ) (Z:=Z) (w:=w) j2).1;rw[hzz]at h5;obtain⟨v,hv1,hv2⟩:=h5.one_inv;rw[hv1]
        cases hv2
        rfl
       exact⟨zz,by simp[zeroValue,typeInfo,i1,j1],by rw[<-Array.toArray_toList (xs:=zz.cells),hzc]⟩
      obtain⟨zz,hz0,hzc⟩:=hz0;obtain⟨N,hN⟩:∃N,N=List.length (α := Int) xs:=⟨_,rfl⟩
      have hil:inner.length=N:=by rw[hN,hil,Nat.mul_one]
      rw[<-hN]at hnc hjn htake;rw[Nat.mul_one]at hcs htake
      let W' := w.setRow g (cur.toList.take j++List.replicate (N - j) (Value.int k 0)++cur.toList.drop N).toArray
      have hclr:(Builtin.clear_ #[t] ty #[sliced (some ⟨g,0,none⟩) j N cap 1]).run P w = .ok (.tuple #[]) W' := by
       by_cases hNj:N - j=0
       ·
        have hW:W' = w:=by
         have:j=N:=by omega
         show w.setRow g (cur.toList.take j++List.replicate (N - j) (Value.int k 0)++cur.toList.drop N).toArray=w;rw[hNj,this,List.replicate_zero,List.append_nil,List.take_append_drop,Array.toArray_toList];exact setRow_self w g cur e' (0,0) hg
        rw[hW];obtain⟨A,c', hs⟩:∃A c', sliced (some ⟨g,0,none⟩) j N cap 1 = .slice A 0 c' := ⟨_,_,by unfold sliced;rw[hNj]⟩;rw[hs]
        cases A <;> simp[Builtin.clear_,run_underlying hu]
       ·
        have hcj:¬ cap=j:=by omega
        have hst:=run_storeCells_at P g j e' (List.replicate (N - j) (Value.int k 0)) 0 cur w hg (by rw[List.length_replicate];omega) (λ v hv=>by rw[List.eq_of_mem_replicate hv];rfl)
        rw[Nat.add_zero,List.length_replicate,show j+(N - j)=N by omega]at hst;obtain⟨q,hq⟩:∃q,N - j=q+1:=⟨N - j - 1,by omega⟩
        have hzl:=ZcN k (N - j);have ha:(⟨g,0,none⟩:Addr).add (j*1)=⟨g,j,none⟩:=by rw[ZbJ];simp
        simp only[Builtin.clear_,sliced,hcj,if_false,Option.map_some,ha];rw[hq]at hzl hst ⊢;simp[run_underlying hu,hz0,hzc,hzl,hst,W', hq]
      have hD:=ZcV hm (o := .row e' m (.int k) (List.take (α := Int) j xs++List.replicate (List.length (α := Int) xs - j) 0)) ho hz rfl (z' := z) (c:=[]) (w' := W') (λ _ h=>by cases h) (by simp) (λ q hq => .inl hq) rfl rfl rfl (by simp[W']) (λ q hq=>setRow_other w g q _ (λ e=>hq (e ▸ hFg))) (by
       rw[Zd9 hz];have hlx:(List.take (α := Int) j xs).length=j:=by rw[List.length_take];omega
       have hly:(List.take (α := Int) j xs++List.replicate (N - j) (0:Int)).length=N:=by rw[List.length_append,hlx,List.length_replicate];omega
       rw[<-hN];refine⟨inner.take j++List.replicate (N - j) (Value.int k 0),⟨?_,.inr ⟨g,cap,_,?_,hb0,setRow_heap w g cur _ e' (0,0) hg,?_,hcm,?_,?_⟩⟩,hb,Fs,λ q p hp => ?_,hsub,hdis⟩
       ·show(inner.take j++List.replicate (N - j) (Value.int k 0)).length=(List.take (α := Int) j xs++List.replicate (N - j) (0:Int)).length*1;rw[hly,List.length_append,List.length_take,List.length_replicate];omega
       ·show z.hdr=Value.slice (some ⟨g,0,none⟩) (List.take (α := Int) j xs++List.replicate (N - j) (0:Int)).length cap;rw[hly,hg', hN]
       ·show(List.take (α := Int) j xs++List.replicate (N - j) (0:Int)).length<=cap;rw[hly];exact hnc
       ·show(cur.toList.take j++List.replicate (N - j) (Value.int k 0)++cur.toList.drop N).toArray.size=cap*1;rw[List.size_toArray,List.length_append,List.length_append,List.length_take,List.length_replicate,List.length_drop,Array.length_toList];omega
       ·
        show(cur.toList.take j++List.replicate (N - j) (Value.int k 0)++cur.toList.drop N).toArray.toList.take ((List.take (α := Int) j xs++List.replicate (N - j) (0:Int)).length*1)=_;have e1:(cur.toList.take j++List.replicate (N - j) (Value.int k 0)).length=N:=by rw[List.length_append,List.length_take,List.length_replicate,Array.length_toList];omega
        rw[hly,Nat.mul_one,List.toList_toArray,List.take_append_of_le_length (by omega),List.take_of_length_le (by omega),<-htake,List.take_take,Nat.min_eq_left (by omega)]
       ·
        have hp:(List.take (α := Int) j xs++List.replicate (N - j) (0:Int))[q]? = some p:=hp;show((inner.take j++List.replicate (N - j) (Value.int k 0)).drop (q*1)).take 1=[Value.int k p];have hq1:q < N:=by have:=(List.getElem?_eq_some_iff.1 hp).1;omega
        rw[Nat.mul_one]
        by_cases hqj:q < j
        ·rw[List.getElem?_append_left (by omega),List.getElem?_take,if_pos hqj]at hp;have h1:=hel2 q p hp;have h1:(inner.drop (q*1)).take 1=[Value.int k p]:=h1;rw[Nat.mul_one]at h1;rw[List.drop_append_of_le_length (by rw[List.length_take];omega),List.drop_take,List.take_append_of_le_length (by rw[List.length_take,List.length_drop];omega),List.take_take,Nat.min_eq_left (by omega)];exact h1
        ·
         rw[List.getElem?_append_right (by omega),hlx,List.getElem?_replicate,if_pos (by omega)]at hp
         cases hp
         have e2:(inner.take j).length=j:=by rw[List.length_take];omega
         rw[List.drop_append,e2,List.drop_of_length_le (by omega),List.nil_append,List.drop_replicate];obtain⟨y,hy⟩:∃y,N - j - (q - j)=y+1:=⟨N - j - (q - j) - 1,by omega⟩
         rw[hy,List.replicate_succ]
         rfl)
      obtain⟨ρ', Z', d1,d2,d3,d4⟩:=hD;rw[hN]at hclr;exact⟨_,_,h,W', hclr,ρ', Z', d1,d2,⟨[],rfl,rfl⟩,d4⟩
     ·
      rename_i e' m xs
      rw[ZaO]at h;obtain⟨hc,h⟩:=h;simp only[Bool.and_eq_true]at hc;obtain⟨⟨hc1,hc2⟩,hc3⟩:=hc;have hc1:=Nat.eq_of_beq_eq_true hc1;have hc2:=Nat.eq_of_beq_eq_true hc2;subst hc1;obtain⟨z,hz,inner,hown,hb,Fs,hel2,hsub,hdis⟩:=hm.obj T _ ho;obtain⟨z', g,n,cap,hz', hg', hjn,rfl⟩:=hx;rw[hz]at hz'
      cases hz'
      have hil:inner.length=List.length (α := Value) xs*1:=hown.1;rcases hown.2 with ⟨hv,_⟩|⟨g2,cap2,cur,hv,hb0,hg,hnc,hcm,hcs,htake⟩
      ·rw[hg']at hv;cases hv
      rw[hg']at hv
      cases hv
      have hnc:List.length (α := Value) xs<=cap:=hnc;have hjn:j<=List.length (α := Value) xs:=hjn;have hcs:cur.size=cap*1:=hcs;have htake:cur.toList.take (List.length (α := Value) xs*1)=inner:=htake;have hFg:z.F g:=hb g (by rw[hg'];rfl);have hz0:∃zz,(zeroValue e').run P w = .ok zz w/\zz.cells = #[.slice none 0 0]:=by
       obtain⟨info,i1,i2,i3,i4⟩:=(hE e' ie hie).info;have hzz:ie.zero=[.nil]:=by
        match hq:ie.zero,hc3 with
        | [.nil],_=>rfl
       obtain⟨zz,j1,j2,_⟩:=i4 (by rw[hzz,hc2];rfl) (by omega)
       have hzc:zz.cells.toList=[.slice none 0 0]:=by
        have h5:=(ZbW (P:=P) (B:=B) (ρ := ρ) (Z:=Z) (w:=w) j2).1;rw[hzz]at h5;obtain⟨v,hv1,hv2⟩:=h5.one_inv;rw[hv1]
        cases hv2
        rfl
       exact⟨zz,by simp[zeroValue,typeInfo,i1,j1],by rw[<-Array.toArray_toList (xs:=zz.cells),hzc]⟩
      obtain⟨zz,hz0,hzc⟩:=hz0;obtain⟨N,hN⟩:∃N,N=List.length (α := Value) xs:=⟨_,rfl⟩
      have hil:inner.length=N:=by rw[hN,hil,Nat.mul_one]
      rw[<-hN]at hnc hjn htake;rw[Nat.mul_one]at hcs htake
      let W' := w.setRow g (cur.toList.take j++List.replicate (N - j) (Value.slice none 0 0)++cur.toList.drop N).toArray
      have hclr:(Builtin.clear_ #[t] ty #[sliced (some ⟨g,0,none⟩) j N cap 1]).run P w = .ok (.tuple #[]) W' := by
       by_cases hNj:N - j=0
       ·
        have hW:W' = w:=by
         have:j=N:=by omega
         show w.setRow g (cur.toList.take j++List.replicate (N - j) (Value.slice none 0 0)++cur.toList.drop N).toArray=w;rw[hNj,this,List.replicate_zero,List.append_nil,List.take_append_drop,Array.toArray_toList];exact setRow_self w g cur e' (0,0) hg
        rw[hW];obtain⟨A,c', hs⟩:∃A c', sliced (some ⟨g,0,none⟩) j N cap 1 = .slice A 0 c' := ⟨_,_,by unfold sliced;rw[hNj]⟩;rw[hs]
        cases A <;> simp[Builtin.clear_,run_underlying hu]
       ·
        have hcj:¬ cap=j:=by omega
        have hst:=run_storeCells_at P g j e' (List.replicate (N - j) (Value.slice none 0 0)) 0 cur w hg (by rw[List.length_replicate];omega) (λ v hv=>by rw[List.eq_of_mem_replicate hv];rfl)
        rw[Nat.add_zero,List.length_replicate,show j+(N - j)=N by omega]at hst;obtain⟨q,hq⟩:∃q,N - j=q+1:=⟨N - j - 1,by omega⟩
        have hzl:=Zgp (.slice none 0 0) (N - j);have ha:(⟨g,0,none⟩:Addr).add (j*1)=⟨g,j,none⟩:=by rw[ZbJ];simp
        simp only[Builtin.clear_,sliced,hcj,if_false,Option.map_some,ha];rw[hq]at hzl hst ⊢;simp[run_underlying hu,hz0,hzc,hzl,hst,W', hq]
      have hD:=ZcV hm (o := .row e' m .raw (List.take (α := Value) j xs++List.replicate (List.length (α := Value) xs - j) (Value.slice none 0 0))) ho hz rfl (z' := z) (c:=[]) (w' := W') (λ _ h=>by cases h) (by simp) (λ q hq => .inl hq) rfl rfl rfl (by simp[W']) (λ q hq=>setRow_other w g q _ (λ e=>hq (e ▸ hFg))) (by
       rw[Zd9 hz];have hlx:(List.take (α := Value) j xs).length=j:=by rw[List.length_take];omega
       have hly:(List.take (α := Value) j xs++List.replicate (N - j) (Value.slice none 0 0)).length=N:=by rw[List.length_append,hlx,List.length_replicate];omega
       rw[<-hN];refine⟨inner.take j++List.replicate (N - j) (Value.slice none 0 0),⟨?_,.inr ⟨g,cap,_,?_,hb0,setRow_heap w g cur _ e' (0,0) hg,?_,hcm,?_,?_⟩⟩,hb,Fs,λ q p hp => ?_,hsub,hdis⟩
       ·show(inner.take j++List.replicate (N - j) (Value.slice none 0 0)).length=(List.take (α := Value) j xs++List.replicate (N - j) (Value.slice none 0 0)).length*1;rw[hly,List.length_append,List.length_take,List.length_replicate];omega
       ·show z.hdr=Value.slice (some ⟨g,0,none⟩) (List.take (α := Value) j xs++List.replicate (N - j) (Value.slice none 0 0)).length cap;rw[hly,hg', hN]
       ·show(List.take (α := Value) j xs++List.replicate (N - j) (Value.slice none 0 0)).length<=cap;rw[hly];exact hnc
       ·show(cur.toList.take j++List.replicate (N - j) (Value.slice none 0 0)++cur.toList.drop N).toArray.size=cap*1;rw[List.size_toArray,List.length_append,List.length_append,List.length_take,List.length_replicate,List.length_drop,Array.length_toList];omega
       ·
        show(cur.toList.take j++List.replicate (N - j) (Value.slice none 0 0)++cur.toList.drop N).toArray.toList.take ((List.take (α := Value) j xs++List.replicate (N - j) (Value.slice none 0 0)).length*1)=_;have e1:(cur.toList.take j++List.replicate (N - j) (Value.slice none 0 0)).length=N:=by rw[List.length_append,List.length_take,List.length_replicate,Array.length_toList];omega
        rw[hly,Nat.mul_one,List.toList_toArray,List.take_append_of_le_length (by omega),List.take_of_length_le (by omega),<-htake,List.take_take,Nat.min_eq_left (by omega)]
       ·
        have hp:(List.take (α := Value) j xs++List.replicate (N - j) (Value.slice none 0 0))[q]? = some p:=hp;show((inner.take j++List.replicate (N - j) (Value.slice none 0 0)).drop (q*1)).take 1=[p]/\p.oneCell' = true;have hq1:q < N:=by have:=(List.getElem?_eq_some_iff.1 hp).1;omega
        rw[Nat.mul_one]
        by_cases hqj:q < j
        ·rw[List.getElem?_append_left (by omega),List.getElem?_take,if_pos hqj]at hp;have h1:=hel2 q p hp;have h1:(inner.drop (q*1)).take 1=[p]/\p.oneCell' = true:=h1;rw[Nat.mul_one]at h1;rw[List.drop_append_of_le_length (by rw[List.length_take];omega),List.drop_take,List.take_append_of_le_length (by rw[List.length_take,List.length_drop];omega),List.take_take,Nat.min_eq_left (by omega)];exact h1
        ·
         rw[List.getElem?_append_right (by omega),hlx,List.getElem?_replicate,if_pos (by omega)]at hp
         cases hp
         have e2:(inner.take j).length=j:=by rw[List.length_take];omega
         rw[List.drop_append,e2,List.drop_of_length_le (by omega),List.nil_append,List.drop_replicate];obtain⟨y,hy⟩:∃y,N - j - (q - j)=y+1:=⟨N - j - (q - j) - 1,by omega⟩
         rw[hy,List.replicate_succ];exact⟨rfl,rfl⟩)
      obtain⟨ρ', Z', d1,d2,d3,d4⟩:=hD;rw[hN]at hclr;exact⟨_,_,h,W', hclr,ρ', Z', d1,d2,⟨[],rfl,rfl⟩,d4⟩
     ·
      rename_i e' e3 t3 xs
      rw[ZaO]at h;obtain⟨hc,h⟩:=h;simp only[Bool.and_eq_true]at hc;obtain⟨⟨hc1,hc2⟩,hc3⟩:=hc;have hc1:=Nat.eq_of_beq_eq_true hc1;have hc2:=Nat.eq_of_beq_eq_true hc2;subst hc1;obtain⟨z,hz,inner,hown,hb,Fs,hel2,hsub,hdis⟩:=hm.obj T _ ho;obtain⟨z', g,n,cap,hz', hg', hjn,rfl⟩:=hx;rw[hz]at hz'
      cases hz'
      have hil:inner.length=List.length (α := List t3.den) xs*1:=hown.1;rcases hown.2 with ⟨hv,_⟩|⟨g2,cap2,cur,hv,hb0,hg,hnc,hcm,hcs,htake⟩
      ·rw[hg']at hv;cases hv
      rw[hg']at hv
      cases hv
      have hnc:List.length (α := List t3.den) xs<=cap:=hnc;have hjn:j<=List.length (α := List t3.den) xs:=hjn;have hcs:cur.size=cap*1:=hcs;have htake:cur.toList.take (List.length (α := List t3.den) xs*1)=inner:=htake;have hFg:z.F g:=hb g (by rw[hg'];rfl);have hz0:∃zz,(zeroValue e').run P w = .ok zz w/\zz.cells = #[.slice none 0 0]:=by
       obtain⟨info,i1,i2,i3,i4⟩:=(hE e' ie hie).info;have hzz:ie.zero=[.nil]:=by
        match hq:ie.zero,hc3 with
        | [.nil],_=>rfl
       obtain⟨zz,j1,j2,_⟩:=i4 (by rw[hzz,hc2];rfl) (by omega)
       have hzc:zz.cells.toList=[.slice none 0 0]:=by
        have h5:=(ZbW (P:=P) (B:=B) (ρ := ρ) (Z:=Z) (w:=w) j2).1;rw[hzz]at h5;obtain⟨v,hv1,hv2⟩:=h5.one_inv;rw[hv1]
        cases hv2
        rfl
       exact⟨zz,by simp[zeroValue,typeInfo,i1,j1],by rw[<-Array.toArray_toList (xs:=zz.cells),hzc]⟩
      obtain⟨zz,hz0,hzc⟩:=hz0;obtain⟨N,hN⟩:∃N,N=List.length (α := List t3.den) xs:=⟨_,rfl⟩
      have hil:inner.length=N:=by rw[hN,hil,Nat.mul_one]
      rw[<-hN]at hnc hjn htake;rw[Nat.mul_one]at hcs htake
      let W' := w.setRow g (cur.toList.take j++List.replicate (N - j) (Value.slice none 0 0)++cur.toList.drop N).toArray
      have hclr:(Builtin.clear_ #[t] ty #[sliced (some ⟨g,0,none⟩) j N cap 1]).run P w = .ok (.tuple #[]) W' := by
       by_cases hNj:N - j=0
       ·
        have hW:W' = w:=by
         have:j=N:=by omega
         show w.setRow g (cur.toList.take j++List.replicate (N - j) (Value.slice none 0 0)++cur.toList.drop N).toArray=w;rw[hNj,this,List.replicate_zero,List.append_nil,List.take_append_drop,Array.toArray_toList];exact setRow_self w g cur e' (0,0) hg
        rw[hW];obtain⟨A,c', hs⟩:∃A c', sliced (some ⟨g,0,none⟩) j N cap 1 = .slice A 0 c' := ⟨_,_,by unfold sliced;rw[hNj]⟩;rw[hs]
        cases A <;> simp[Builtin.clear_,run_underlying hu]
       ·
        have hcj:¬ cap=j:=by omega
        have hst:=run_storeCells_at P g j e' (List.replicate (N - j) (Value.slice none 0 0)) 0 cur w hg (by rw[List.length_replicate];omega) (λ v hv=>by rw[List.eq_of_mem_replicate hv];rfl)
        rw[Nat.add_zero,List.length_replicate,show j+(N - j)=N by omega]at hst;obtain⟨q,hq⟩:∃q,N - j=q+1:=⟨N - j - 1,by omega⟩
        have hzl:=Zgp (.slice none 0 0) (N - j);have ha:(⟨g,0,none⟩:Addr).add (j*1)=⟨g,j,none⟩:=by rw[ZbJ];simp
        simp only[Builtin.clear_,sliced,hcj,if_false,Option.map_some,ha];rw[hq]at hzl hst ⊢;simp[run_underlying hu,hz0,hzc,hzl,hst,W', hq]
      have hzg:¬ Z g:=λ hk=>(hm.zsep g ⟨T,z,(by show(lk T ob).isSome=true;rw[ho];rfl),hz,hFg⟩).1 hk
      have hoth:∀k,k≠g->W'.heap[k]? = w.heap[k]? := λ k hk=>setRow_other w g k _ hk
      have hD:=ZcV hm (o := .row e' false (.sl e3 t3) (List.append (α := List t3.den) (List.take (α := List t3.den) j xs) (List.replicate (α := List t3.den) (List.length (α := List t3.den) xs - j) ([]:List t3.den)))) ho hz rfl (z' := z) (c:=[]) (w' := W') (λ _ h=>by cases h) (by simp) (λ q hq => .inl hq) rfl rfl rfl (by simp[W']) (λ q hq=>setRow_other w g q _ (λ e=>hq (e ▸ hFg))) (by
       rw[Zd9 hz];have hlx:(List.take (α := List t3.den) j xs).length=j:=by rw[List.length_take];omega
       have hly:(List.append (α := List t3.den) (List.take (α := List t3.den) j xs) (List.replicate (α := List t3.den) (N - j) ([]:List t3.den))).length=N:=by show(List.take (α := List t3.den) j xs++List.replicate (α := List t3.den) (N - j) ([]:List t3.den)).length=N;rw[List.length_append,hlx,List.length_replicate];omega
       rw[<-hN];refine⟨inner.take j++List.replicate (N - j) (Value.slice none 0 0),⟨?_,.inr ⟨g,cap,_,?_,hb0,setRow_heap w g cur _ e' (0,0) hg,?_,hcm,?_,?_⟩⟩,hb,Fs,λ q p hp => ?_,hsub,hdis⟩
       ·show(inner.take j++List.replicate (N - j) (Value.slice none 0 0)).length=(List.append (α := List t3.den) (List.take (α := List t3.den) j xs) (List.replicate (α := List t3.den) (N - j) ([]:List t3.den))).length*1;rw[hly,List.length_append,List.length_take,List.length_replicate];omega
       ·show z.hdr=Value.slice (some ⟨g,0,none⟩) (List.append (α := List t3.den) (List.take (α := List t3.den) j xs) (List.replicate (α := List t3.den) (N - j) ([]:List t3.den))).length cap;rw[hly,hg', hN]
       ·show(List.append (α := List t3.den) (List.take (α := List t3.den) j xs) (List.replicate (α := List t3.den) (N - j) ([]:List t3.den))).length<=cap;rw[hly];exact hnc
       ·show(cur.toList.take j++List.replicate (N - j) (Value.slice none 0 0)++cur.toList.drop N).toArray.size=cap*1;rw[List.size_toArray,List.length_append,List.length_append,List.length_take,List.length_replicate,List.length_drop,Array.length_toList];omega
       ·
        show(cur.toList.take j++List.replicate (N - j) (Value.slice none 0 0)++cur.toList.drop N).toArray.toList.take ((List.append (α := List t3.den) (List.take (α := List t3.den) j xs) (List.replicate (α := List t3.den) (N - j) ([]:List t3.den))).length*1)=_;have e1:(cur.toList.take j++List.replicate (N - j) (Value.slice none 0 0)).length=N:=by rw[List.length_append,List.length_take,List.length_replicate,Array.length_toList];omega
        rw[hly,Nat.mul_one,List.toList_toArray,List.take_append_of_le_length (by omega),List.take_of_length_le (by omega),<-htake,List.take_take,Nat.min_eq_left (by omega)]
       ·
        have hp:(List.take (α := List t3.den) j xs++List.replicate (α := List t3.den) (N - j) ([]:List t3.den))[q]? = some p:=hp;show Rep Z W' false (.sl e3 t3) p (((inner.take j++List.replicate (N - j) (Value.slice none 0 0)).drop (q*1)).take 1) (Fs q);have hq1:q < N:=by have:=(List.getElem?_eq_some_iff.1 hp).1;rw[List.length_append,hlx,List.length_replicate]at this;omega
        rw[Nat.mul_one]
        by_cases hqj:q < j
        ·rw[List.getElem?_append_left (by omega),List.getElem?_take,if_pos hqj]at hp;have h1:=hel2 q p hp;have h1:Rep Z w false (.sl e3 t3) p ((inner.drop (q*1)).take 1) (Fs q):=h1;rw[Nat.mul_one]at h1;rw[List.drop_append_of_le_length (by rw[List.length_take];omega),List.drop_take,List.take_append_of_le_length (by rw[List.length_take,List.length_drop];omega),List.take_take,Nat.min_eq_left (by omega)];exact Rep.imp _ h1 (λ _ h=>h) (λ _ h=>h) (λ k hk=>hoth k λ e=>hzg (e ▸ hk)) λ k hk=>hoth k λ e=>(hsub q k hk).2 (by rw[hg', e];rfl)
        ·
         rw[List.getElem?_append_right (by omega),hlx,List.getElem?_replicate,if_pos (by omega)]at hp
         cases hp
         have e2:(inner.take j).length=j:=by rw[List.length_take];omega
         rw[List.drop_append,e2,List.drop_of_length_le (by omega),List.nil_append,List.drop_replicate];obtain⟨y,hy⟩:∃y,N - j - (q - j)=y+1:=⟨N - j - (q - j) - 1,by omega⟩
         rw[hy,List.replicate_succ];exact⟨none,0,rfl,⟨Nat.le_refl _,by simp,λ h=>absurd h (Nat.lt_irrefl _)⟩,λ _ _=>rfl⟩)
      obtain⟨ρ', Z', d1,d2,d3,d4⟩:=hD;rw[hN]at hclr;exact⟨_,_,h,W', hclr,ρ', Z', d1,d2,⟨[],rfl,rfl⟩,d4⟩
     ·cases h
    ·cases h
   ·cases h
  ·cases h
 ·cases h
end
end Go.Proofs.YtdamfbighdkcbaaGreat.D
