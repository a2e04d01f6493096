/- What the proof of the law Steps stands on, part 2: words, each Go function's Lean function, and that the Go code comes to its answers; no condition. (Packed by wip/myprint/pack.py out of what the kit's printer wrote, its words among it, partly by our patches of it, and out of texts of this session.) -/
import Derived.Lib.AppendZeros
import Derived.Laws.Strings
import Derived.Laws.BytesString
import Derived.Test.YtdamfbighdkcbaaGreatKSteps1
set_option linter.unusedVariables false
set_option linter.unusedSimpArgs false
namespace Go.Proofs.YtdamfbighdkcbaaGreat.D
open Go Go.RowKit
section
variable {P:Program} {B:Nat->Prop} {ρ : Rz} {Z:Nat->Prop} {ob:List (Nat×Ob)} {w:World} {β : Type} {KK:Eff->List Nat->Option β} {nd:List Nat} {r : β}
theorem Zgx {op:BinOp} {t:TypeId} {xo yo:Operand} {A A' : Option Addr} {n n' c c' : Nat}:(eqGuard op t xo yo (.slice A n c) (.slice A' n' c')).run P w = .ok () w:=by
 unfold eqGuard
 cases op <;> rfl
theorem ZjP {t e:TypeId} (hu:P.underlying t=some (.slice e)) {A:Option Addr} {n c:Nat}:(Op.equal t (.slice A n c) (.slice none 0 0)).run P w = .ok A.isNone w:=by
 unfold Op.equal;have hd:∃d,Op.maxDepth=d+1:=⟨_,rfl⟩
 obtain⟨d,hd⟩:=hd;rw[hd];unfold Op.equalIn
 cases A <;> simp[run_underlying hu]
theorem ZdM {op:BinOp} {t e:TypeId} (hu:P.underlying t=some (.slice e)) {xo yo:Operand} {A:Option Addr} {n c:Nat}:(op = .eql->(do eqGuard op t xo yo (.slice A n c) (.slice none 0 0);binOp op t (.slice A n c) (.slice none 0 0):Sem Value).run P w = .ok (.bool A.isNone) w)/\(op = .neq->(do eqGuard op t xo yo (.slice A n c) (.slice none 0 0);binOp op t (.slice A n c) (.slice none 0 0):Sem Value).run P w = .ok (.bool (!A.isNone)) w):=by
 constructor
 ·rintro rfl;simp[Zgx,binOp,ZjP hu]
 ·rintro rfl;simp[Zgx,binOp,ZjP hu]
theorem Zfj {op:BinOp} {t:TypeId} {xo yo:Operand} {a b:Bool}:(eqGuard op t xo yo (.bool a) (.bool b)).run P w = .ok () w:=by
 unfold eqGuard
 cases op <;> rfl
theorem Zgy {t:TypeId} (hu:P.underlying t=some .bool) {a b:Bool}:(Op.equal t (.bool a) (.bool b)).run P w = .ok (a == b) w:=by
 unfold Op.equal;have hd:∃d,Op.maxDepth=d+1:=⟨_,rfl⟩
 obtain⟨d,hd⟩:=hd;rw[hd];unfold Op.equalIn;simp[run_underlying hu]
theorem Zk4 (a b:ByteArray):(a == b)=decide (a=b):=by
 cases a with
 | mk a =>
  cases b with
  | mk b =>
   show(a == b)=_
   by_cases e:a=b
   ·subst e;simp
   ·simp[e]
theorem ZgS (a b:ByteArray):(a.toList == b.toList)=(a == b):=by
 rw[Zk4,ByteArray.toList_eq,ByteArray.toList_eq]
 cases a with
 | mk a =>
  cases b with
  | mk b =>
   by_cases e:a=b
   ·subst e;simp
   ·
    have e2:¬ a.toList=b.toList:=λ h=>e (Array.toList_inj.1 h)
    simp[e,e2]
theorem Zeo {op:BinOp} {t:TypeId} {xo yo:Operand} {a b:ByteArray}:(eqGuard op t xo yo (.string a) (.string b)).run P w = .ok () w:=by
 unfold eqGuard
 cases op <;> rfl
theorem Zhl (hm:Mem P B ρ Z (look ob) w) {E:Env} (hE:TtOk P E.tt) {t:TypeId} {x y:AV} {vx vy:Value} (h:(Zja E t x y).run ob KK nd=some r) (hx:AR P B ρ Z w x vx) (hy:AR P B ρ Z w y vy):Says P B ρ Z ob w KK r (Instr.index t vx vy):=by
 unfold Zja at h
 split at h
 ·
  rename_i s k j
  cases hx
  cases hy
  split at h
  ·
   rename_i i hi
   split at h
   ·
    rename_i hk
    have hu:P.underlying t=some .string:=by have:=(hE t i hi).kind;rw[hk]at this;exact this
    rw[ZZ,ZZ]at h;obtain⟨h0,h1,h⟩:=h;have hb:j.toNat < s.size:=by omega
    have hg:s[j.toNat]? = some s[j.toNat]:=getElem?_pos s j.toNat hb;have hv:Zeb s j=(s[j.toNat].toNat:Int):=by
     unfold Zeb;have:s.data.getD j.toNat 0=s[j.toNat]:=by
      rw[Array.getD_eq_getD_getElem?,Array.getElem?_eq_getElem (show j.toNat < s.data.size from hb)]
      rfl
     rw[this]
    refine Z7 hm h (v := .int .u8 (Zeb s j)) ?_ rfl;rw[hv];simp[Instr.index,asIntOf,run_underlying hu,h0,hg]
   ·cases h
  ·cases h
 ·cases h
theorem Zi5 (hm:Mem P B ρ Z (look ob) w) {E:Env} (hE:TtOk P E.tt) {op:BinOp} {tx:TypeId} {x y:AV} {vx vy:Value} {xo yo:Operand} (h:(pBinN E tx op x y).run ob KK nd=some r) (hx:AR P B ρ Z w x vx) (hy:AR P B ρ Z w y vy):Says P B ρ Z ob w KK r (do eqGuard op tx xo yo vx vy;binOp op tx vx vy):=by
 unfold pBinN at h
 split at h
 ·
  cases hx
  cases hy
  split at h
  ·
   rename_i i hi
   split at h
   ·
    rename_i e hk
    have hu:P.underlying tx=some (.slice e):=by have:=(hE tx i hi).kind;rw[hk]at this;exact this
    exact Z7 hm h ((ZdM hu).1 rfl) rfl
   ·
    rename_i e hk
    have hu:P.underlying tx=some (.slice e):=by have:=(hE tx i hi).kind;rw[hk]at this;exact this
    exact Z7 hm h ((ZdM hu).2 rfl) rfl
   ·cases h
  ·cases h
 ·
  rename_i t' xs
  obtain⟨A,c,rfl,_,_,hv⟩:=hx
  cases hy
  split at h
  ·
   rename_i i hi
   split at h
   ·
    rename_i e hk
    have hu:P.underlying tx=some (.slice e):=by have:=(hE tx i hi).kind;rw[hk]at this;exact this
    rw[ZZ]at h;obtain⟨ad,rfl,_⟩:=hv h.1;exact Z7 hm h.2 ((ZdM hu).1 rfl) rfl
   ·
    rename_i e hk
    have hu:P.underlying tx=some (.slice e):=by have:=(hE tx i hi).kind;rw[hk]at this;exact this
    rw[ZZ]at h;obtain⟨ad,rfl,_⟩:=hv h.1;exact Z7 hm h.2 ((ZdM hu).2 rfl) rfl
   ·cases h
  ·cases h
 ·
  rename_i T
  obtain⟨z', hz', rfl,_⟩:=hx
  cases hy
  split at h
  ·
   rename_i i hi
   have key:∀{o:Ob} {e' : TypeId} {m' : Bool} {t' : Ty} {xs:List t'.den},lk T ob=some o->o = .row e' m' t' xs->0 < List.length xs->∃ad n c,z'.hdr = .slice (some ad) n c:=λ {o e' m' t' xs} ho he hl=>by
    subst he;obtain⟨z,hz,hrow⟩:=hm.obj T _ ho;rw[hz']at hz
    cases hz
    obtain⟨inner,hown,_⟩:=hrow;rcases hown.2 with ⟨_,h0⟩|⟨g,cap,cur,hv,_⟩
    ·omega
    ·exact⟨_,_,_,hv⟩
   split at h
   ·
    rename_i e hk
    have hu:P.underlying tx=some (.slice e):=by have:=(hE tx i hi).kind;rw[hk]at this;exact this
    rw[Zbu]at h;obtain⟨o,ho,h⟩:=h
    split at h
    ·rw[ZZ]at h;obtain⟨ad,n,c,e⟩:=key ho rfl h.1;rw[e];exact Z7 hm h.2 ((ZdM hu).1 rfl) rfl
    ·cases h
   ·
    rename_i e hk
    have hu:P.underlying tx=some (.slice e):=by have:=(hE tx i hi).kind;rw[hk]at this;exact this
    rw[Zbu]at h;obtain⟨o,ho,h⟩:=h
    split at h
    ·rw[ZZ]at h;obtain⟨ad,n,c,e⟩:=key ho rfl h.1;rw[e];exact Z7 hm h.2 ((ZdM hu).2 rfl) rfl
    ·cases h
   ·cases h
  ·cases h
 ·
  rename_i b
  obtain⟨A,c,rfl,rfl⟩:=hx
  cases hy
  split at h
  ·
   rename_i i hi
   split at h
   ·
    rename_i e hk
    have hu:P.underlying tx=some (.slice e):=by have:=(hE tx i hi).kind;rw[hk]at this;exact this
    exact Z7 hm h ((ZdM hu).1 rfl) (by cases A <;> rfl)
   ·
    rename_i e hk
    have hu:P.underlying tx=some (.slice e):=by have:=(hE tx i hi).kind;rw[hk]at this;exact this
    exact Z7 hm h ((ZdM hu).2 rfl) (by cases A <;> rfl)
   ·cases h
  ·cases h
 ·
  rename_i n p d n' p' d'
  cases hx
  cases hy
  split at h
  ·
   rename_i i hi
   split at h
   ·
    rename_i hk
    have hu:P.underlying tx=some .bool:=by have:=(hE tx i hi).kind;rw[hk]at this;exact this
    refine Z7 hm h (v := .bool (bval n p d == bval n' p' d')) (by simp[Zfj,binOp,Zgy hu]) ?_;show _=Value.bool (decide _)
    cases bval n p d <;> cases bval n' p' d' <;> rfl
   ·
    rename_i hk
    have hu:P.underlying tx=some .bool:=by have:=(hE tx i hi).kind;rw[hk]at this;exact this
    refine Z7 hm h (v := .bool (!(bval n p d == bval n' p' d'))) (by simp[Zfj,binOp,Zgy hu]) ?_;show _=Value.bool (!(decide _))
    cases bval n p d <;> cases bval n' p' d' <;> rfl
   ·cases h
  ·cases h
 ·
  rename_i a b
  cases hx
  cases hy
  split at h
  ·
   rename_i i hi
   split at h
   ·
    rename_i hk
    have hu:P.underlying tx=some .string:=by have:=(hE tx i hi).kind;rw[hk]at this;exact this
    refine Z7 hm h (v := .bool (a == b)) (by simp[Zeo,binOp,Op.stringOp,ZgS]) ?_;show _=Value.bool (decide _);rw[Zk4]
   ·
    rename_i hk
    have hu:P.underlying tx=some .string:=by have:=(hE tx i hi).kind;rw[hk]at this;exact this
    refine Z7 hm h (v := .bool (!(a == b))) (by simp[Zeo,binOp,Op.stringOp,ZgS]) ?_;show _=Value.bool (!(decide _));rw[Zk4]
   ·
    rename_i hk
    rw[ZZ]at h;obtain⟨hb,h⟩:=h;have hb2:(a.size:Int)+(b.size:Int)<=9223372036854775807:=by
     have e:((a.size+b.size:Nat):Int)=(a.size:Int)+(b.size:Int):=by omega
     unfold szs at hb;rw[ZcW]at hb;omega
    exact Z7 hm h (v := .string (a++b)) (by simp[Zeo,binOp,Op.stringOp,hb2]) rfl
   ·cases h
  ·cases h
 ·exact ZkJ hm h hx hy
theorem ZkL (hm:Mem P B ρ Z (look ob) w) {t ty:TypeId} {i:TI} (ht:TiOk P t i) {x:AV} {vx:Value} (h:(pCap i.kind x).run ob KK nd=some r) (hx:AR P B ρ Z w x vx):Says P B ρ Z ob w KK r (Builtin.cap_ #[t] ty #[vx]):=by
 unfold pCap at h
 split at h
 ·
  rw[ZaO]at h
  cases hx
  obtain⟨e,hue⟩:=ZfW ht h.1;exact Z7 hm h.2 (by simp[Builtin.cap_,run_underlying hue,goInt]) rfl
 ·cases h
theorem Zil (hm:Mem P B ρ Z (look ob) w) {E:Env} (hE:TtOk P E.tt) {nx:Nat} {t:TypeId} {x y:AV} {vx vy:Value} (h:(ZlZ E nx t x y).run ob KK nd=some r) (hx:AR P B ρ Z w x vx) (hy:AR P B ρ Z w y vy):SaysF P B ρ Z ob w KK r nx (Instr.makeSlice t vx vy):=by
 unfold ZlZ at h
 split at h
 ·
  rename_i k n k' n'
  cases hx
  cases hy
  split at h
  ·
   rename_i i hi
   split at h
   ·
    rename_i e hk
    have hu:P.underlying t=some (.slice e):=by have:=(hE t i hi).kind;rw[hk]at this;exact this
    split at h
    ·
     rename_i ie hie
     split at h
     ·
      rename_i e3 t3 hty hzero
      rw[ZaO,ZZ,ZZ,ZZ]at h;obtain⟨hc,rfl,h0,hlim,h⟩:=h;simp only[Bool.and_eq_true,Bool.not_eq_true']at hc;obtain⟨⟨hc1,hc2⟩,hc3⟩:=hc;have hc1:=Nat.eq_of_beq_eq_true hc1;have hb0:0 < ie.bytes:=Nat.pos_of_ne_zero λ h0=>by rw[h0]at hc2;cases hc2
      obtain⟨info,h1,h2,h3,h4⟩:=(hE e ie hie).info;obtain⟨z,hz,hzc,hzl⟩:=h4 (by rw[hzero,hc1];rfl) (by omega);have hzl:=hzl hc3;rw[hty]at hzl;have hzl:z.cells.toList=[.slice none 0 0]:=hzl;have hzsz:z.cells.size=1:=by rw[<-Array.length_toList,hzl];rfl
      refine⟨_,nd,h,λ hnx => ?_⟩;have hnx:=hnx nx (Nat.le_refl _) (by simp);have hlb:n.toNat*ie.bytes<=140737488355328:=by unfold lim at hlim;exact Nat.le_trans (Nat.mul_le_mul_right _ hlim) (Nat.div_mul_le_self _ _)
      have hnn:n.toNat*1<=n.toNat*ie.bytes:=Nat.mul_le_mul_left _ hb0;obtain⟨w', hr,hown,hg⟩:=run_make_full (P:=P) w 0 t e info z info.size hu h1 hz rfl k k' n.toNat (by rw[h3,Nat.mul_comm];omega) (by simp only[maxLen];omega) (Nat.zero_le _);rw[Int.toNat_of_nonneg h0]at hr;refine⟨_,_,hr,?_⟩;have hsame:∀k,k < w.heap.size->w'.heap[k]? = w.heap[k]? := λ k hk=>hg.block k hk (by simp)
      have hown' : w'.ownsRow 0 e 1 (.slice (some ⟨w.heap.size,0,none⟩) n.toNat n.toNat) (List.replicate (α := List t3.den) n.toNat ([]:List t3.den)).length (madeCells z.cells (n.toNat*z.cells.size)).toList:=by rw[List.length_replicate,hzsz,<-hc1,<-h2];exact hown
      refine ZcL hm hnx (t := .sl (e3+1000000) t3) rfl (c:=[]) (λ _ h=>by cases h) (by simp) hown' (λ k hk => .inr (by simp[Value.ownBlock]at hk;omega)) hg.os hg.tape hg.output hg.size (λ k hk _=>hsame k hk) (λ _ _=>False) (λ j p hp => ?_) (λ _ _ h=>h.elim) (λ _ _ _ _ h=>h.elim)
      have hp:(List.replicate (α := List t3.den) n.toNat ([]:List t3.den))[j]? = some p:=hp;have hj:j < n.toNat:=by have:=(List.getElem?_eq_some_iff.1 hp).1;rwa[List.length_replicate]at this
      rw[List.getElem?_replicate,if_pos hj]at hp
      cases hp
      have hseg:=ZeG z.cells n.toNat j (by omega) hj;rw[hzl,hzsz]at hseg;rw[hzsz];show Rep Z w' false (.sl (e3+1000000) t3) ([]:List t3.den) _ _;have hseg' : ((madeCells z.cells (n.toNat*1)).toList.drop (j*Ty.size (.sl (e3+1000000) t3))).take (Ty.size (.sl (e3+1000000) t3))=[.slice none 0 0]:=hseg;rw[hseg'];exact⟨none,0,rfl,⟨Nat.le_refl _,Nat.zero_le _,λ h=>absurd h (Nat.lt_irrefl _)⟩,λ _ _=>rfl⟩
     ·cases h
    ·cases h
   ·cases h
  ·cases h
 ·cases h
theorem Ziu {t tn ty e:TypeId} {i:TypeInfo} {z:Value} {kq kn k:IntKind} (ht:P.underlying t=some (.slice e)) (htn:P.underlying tn=some (.int kn)) (hi:P.info? e=some i) (hz:i.zero=some z) (hs:i.size=1) (hzc:z.cells = #[.int k 0])
  {v:Value} {n:Nat} {xs:List Value} (hown:w.ownsRow 0 e 1 v n xs) {m:Nat} (h63:n+m<=maxLen) (hbytes:(n+m)*i.bytes<=140737488355328) :
  ∃v' w', (Builtin.append_ #[t,tn] ty #[v,.int kq m]).run P w = .ok v' w' /\ w'.ownsRow 0 e 1 v' (n+m) (xs++List.replicate m (.int k 0))/\w.grownBy w' v.ownBlock/\∀q,v'.ownBlock=some q->v.ownBlock=some q\/w.heap.size<=q:=by
 have h63n:n+m<=9223372036854775807:=by simp only[maxLen]at h63;omega
 have hw:IntKind.i64.wrap (m:Int)=m:=by rw[IntKind.wrap_i64];omega
 have hneg:¬ ((m:Int) < 0):=by omega
 have hmb:m*i.bytes<=140737488355328:=Nat.le_trans (Nat.mul_le_mul_right _ (by omega)) hbytes;have h48i:¬ (281474976710656 < (m:Int)*(i.bytes:Int)):=by rw[<-Int.natCast_mul];omega
 have hzl:∀q,(Builtin.zeroCells z.cells q).toList=List.replicate q (.int k 0):=λ q=>by rw[hzc,ZcN]
 have hw0:IntKind.i64.wrap 0=0:=by rw[IntKind.wrap_i64];omega
 by_cases hm0:m=0
 ·
  subst hm0;refine⟨v,w,?_,by simpa using hown,⟨rfl,rfl,rfl,Nat.le_refl _,λ _ _ _=>rfl⟩,λ q hq => .inl hq⟩;rcases hown.2 with ⟨rfl,rfl⟩|⟨g,cap,cur,rfl,_,_,hnc,_⟩
  ·simp[Builtin.append_,run_underlying ht,run_underlying htn,sizeOf,typeInfo,hi,asInt,asIntOf,hw0,hs]
  ·simp[Builtin.append_,run_underlying ht,run_underlying htn,sizeOf,typeInfo,hi,asInt,asIntOf,hw0,hs,hnc,storeCells]
 have hms:¬ (m*i.size=0):=by rw[hs,Nat.mul_one];exact hm0
 have grown:∀old:Nat,old < n+m->∀base:Option Addr,(Builtin.firstCells i.size n (.slice base n old)).run P w.drew = .ok xs.toArray w.drew->xs.length=n->∀row:Option Nat,
   ∃v' w', (Builtin.append_ #[t,tn] ty #[.slice base n old,.int kq m]).run P w = .ok v' w' /\ w'.ownsRow 0 e 1 v' (n+m) (xs++List.replicate m (.int k 0))/\w.grownBy w' row/\∀q,v'.ownBlock=some q->w.heap.size<=q:=by
  intro old ho base hold hxl row;have hn:¬ (n+m<=old):=by omega
  have h63' : ¬ (9223372036854775807 < ((n:Int)+(m:Int))):=by omega
  have hfit:=growslice_fits (bytes:=i.bytes) ho hbytes;have h48' : ¬ (281474976710656 < Builtin.nextslicecap (n+m) old*i.bytes):=by omega
  have hrun:(Builtin.append_ #[t,tn] ty #[.slice base n old,.int kq m]).run P w = .ok (.slice (some ⟨w.heap.size,0,none⟩) (n+m) (grownCap w (n+m) old e)) (w.drew.alloc (.cells (xs.toArray++Builtin.zeroCells z.cells m++Builtin.zeroCells z.cells (grownCap w (n+m) old e - (n+m))) e)):=by simp[Builtin.append_,run_underlying ht,run_underlying htn,sizeOf,typeInfo,zeroValue,hi,hz,asInt,asIntOf,hw,hn,hneg,hms,h63', h48', h48i,Question.forced,hold,newRow,grownCap]
  refine⟨_,_,hrun,?_,⟨rfl,rfl,rfl,by simp,λ q hq _=>heap_alloc_old w.drew _ q hq⟩,λ q hq=>by simp[Value.ownBlock]at hq;omega⟩
  have hge:=grownCap_ge w (n+m) old e;have hcm:grownCap w (n+m) old e<=maxLen:=grownCap_le_maxLen w (n+m) old e h63;refine⟨by rw[List.length_append,List.length_replicate,hxl];omega,.inr ⟨w.heap.size,_,_,rfl,Nat.zero_le _,heap_alloc_new w.drew _,hge,hcm,?_,?_⟩⟩
  ·simp only[Array.size_append,List.size_toArray,size_zeroCells,hzc,hxl];show _=grownCap w (n+m) old e*1;simp;have:grownCap w (n+m) old e=grownCap w (n+m) old e:=rfl;unfold grownCap at hge ⊢;omega
  ·simp only[Array.toList_append,hzl];rw[List.take_append_of_le_length (by simp[hxl])];exact List.take_of_length_le (by simp[hxl])
 rcases hown.2 with ⟨rfl,h0⟩|⟨g,cap,cur,rfl,hbg,hg,hnc,hcm,hcs,htake⟩
 ·have hn0:n=0:=h0;subst hn0;have hx0:xs=[]:=List.eq_nil_of_length_eq_zero (by have:=hown.1;omega);subst hx0;obtain⟨v', w', a,b,c,d⟩:=grown 0 (by omega) none (run_firstCells_none w.drew _ _ _ _) rfl none;exact⟨v', w', a,b,c,λ q hq => .inr (d q hq)⟩
 ·
  by_cases hroom:n+m<=cap
  ·
   have hst:=run_storeCells_at P g (n*i.size) e (List.replicate m (.int k 0)) 0 cur w hg (by rw[List.length_replicate,hs];omega) (λ u hu=>by rw[List.eq_of_mem_replicate hu];rfl)
   simp only[Nat.add_zero,List.length_replicate]at hst;have hrun:(Builtin.append_ #[t,tn] ty #[.slice (some ⟨g,0,none⟩) n cap,.int kq m]).run P w = .ok (.slice (some ⟨g,0,none⟩) (n+m) cap) (w.setRow g (cur.toList.take (n*i.size)++List.replicate m (Value.int k 0)++cur.toList.drop (n*i.size+m)).toArray):=by simp[Builtin.append_,run_underlying ht,run_underlying htn,sizeOf,typeInfo,zeroValue,hi,hz,asInt,asIntOf,hw,hneg,hms,h48i,hroom,hzl,Addr.add_lit,hst]
   refine⟨_,_,hrun,?_,⟨rfl,rfl,rfl,by simp,λ q _ hq=>setRow_other w g q _ (λ e=>hq (by simp[Value.ownBlock,e]))⟩,λ q hq => .inl hq⟩;have hx:=hown.1;refine⟨by rw[List.length_append,List.length_replicate,hx];omega,.inr ⟨g,cap,_,rfl,hbg,setRow_heap w g cur _ e _ hg,hroom,hcm,?_,?_⟩⟩
   ·simp only[List.size_toArray,List.length_append,List.length_take,List.length_drop,Array.length_toList,List.length_replicate];rw[hs];omega
   ·
    have:List.take (n*i.size) cur.toList=xs:=by rw[hs];exact htake
    rw[this,Nat.mul_one];show List.take _ (xs++List.replicate m (Value.int k 0)++_)=_;rw[List.take_append_of_le_length (by simp;omega)];exact List.take_of_length_le (by simp;omega)
  ·have hx:=hown.1;have holds:∀j u,xs[j]? = some u->w.drew.cell? ((⟨g,0,none⟩:Addr).add j)=some u:=hown.cells (g:=g) rfl;obtain⟨v', w', a,b,c,d⟩:=grown cap (by omega) (some ⟨g,0,none⟩) (run_firstCells_some w.drew _ _ _ _ _ _ (by rw[hs];exact hx) holds) (by omega) (some g);exact⟨v', w', a,b,c,λ q hq => .inr (d q hq)⟩
theorem Zi3 (hm:Mem P B ρ Z (look ob) w) {E:Env} (hE:TtOk P E.tt) {nx:Nat} {m:Bool} {t t' ty:TypeId} {x y:AV} {vx vy:Value} (h:(pAppZ E nx m t t' x y).run ob KK nd=some r) (hx:AR P B ρ Z w x vx) (hy:AR P B ρ Z w y vy):SaysF P B ρ Z ob w KK r nx (Builtin.append_ #[t,t'] ty #[vx,vy]):=by
 unfold pAppZ at h
 split at h
 ·
  rename_i kn n
  cases hx
  cases hy
  split at h
  ·
   rename_i i i' hi hi'
   split at h
   ·
    rename_i e k2 hk hk'
    have hu:P.underlying t=some (.slice e):=by have:=(hE t i hi).kind;rw[hk]at this;exact this
    have hu' : P.underlying t' = some (.int k2):=by have:=(hE t' i' hi').kind;rw[hk']at this;exact this
    split at h
    ·
     rename_i ie hie
     split at h
     ·
      rename_i k k' z0 hty hzero
      rw[ZaO,ZZ,ZZ,ZZ]at h;obtain⟨hc,rfl,h0,hlim,h⟩:=h;simp only[Bool.and_eq_true,Bool.not_eq_true']at hc;obtain⟨⟨⟨hc0,hc1⟩,hc2⟩,hc3⟩:=hc;obtain rfl:=ZeE hc0;have hc1:=Nat.eq_of_beq_eq_true hc1;have hb0:0 < ie.bytes:=Nat.pos_of_ne_zero λ h0=>by rw[h0]at hc2;cases hc2
      obtain⟨info,h1,h2,h3,h4⟩:=(hE e ie hie).info;obtain⟨z,hz,hzc,hzl⟩:=h4 (by rw[hzero,hc1];rfl) (by omega);have hzl:=hzl hc3;rw[hty]at hzl;have hzl:z.cells.toList=[.int k 0]:=hzl;have hzc:z.cells = #[.int k 0]:=by rw[<-Array.toArray_toList (xs:=z.cells),hzl]
      have hlb:n.toNat*ie.bytes<=140737488355328:=by unfold lim at hlim;exact Nat.le_trans (Nat.mul_le_mul_right _ hlim) (Nat.div_mul_le_self _ _)
      have hnn:n.toNat*1<=n.toNat*ie.bytes:=Nat.mul_le_mul_left _ hb0;have hrun:=Lib.run_append_nil_zeros (P:=P) w t t' ty e info z kn k2 hu hu' h1 hz n.toNat (by omega) (by omega) (by omega) (by rw[h3];omega);rw[Int.toNat_of_nonneg (by omega)]at hrun;refine⟨_,nd,h,λ hnx=>⟨_,_,hrun,?_⟩⟩;have hnx:=hnx nx (Nat.le_refl _) (by simp);rw[hzc]
      generalize hcap:grownCap w n.toNat 0 e=cap
      have hge:n.toNat<=cap:=by rw[<-hcap];exact grownCap_ge w _ 0 e
      have hle:cap<=maxLen:=by rw[<-hcap];exact grownCap_le_maxLen w _ 0 e (by unfold maxLen;omega)
      have hL:(Builtin.zeroCells #[.int k 0] n.toNat++Builtin.zeroCells #[.int k 0] (cap - n.toNat)).toList=List.replicate cap (.int k 0):=by
       rw[Array.toList_append,ZcN,ZcN,List.replicate_append_replicate]
       congr 1
       omega
      have hS:(Builtin.zeroCells #[Value.int k 0] n.toNat++Builtin.zeroCells #[Value.int k 0] (cap - n.toNat)).size=cap:=by rw[<-Array.length_toList,hL,List.length_replicate]
      generalize (Builtin.zeroCells #[Value.int k 0] n.toNat++Builtin.zeroCells #[Value.int k 0] (cap - n.toNat))=Y at hL hS
      have hnew:(w.drew.alloc (.cells Y e)).heap[w.heap.size]? = some (.cells Y e (0,0)):=heap_alloc_new w.drew _;have hown:(w.drew.alloc (.cells Y e)).ownsRow 0 e 1 (.slice (some ⟨w.heap.size,0,none⟩) n.toNat cap) (List.replicate (α := Int) n.toNat 0).length (List.replicate n.toNat (.int k 0)):=by
       rw[List.length_replicate];refine⟨by rw[List.length_replicate,Nat.mul_one],.inr ⟨_,cap,Y,rfl,Nat.zero_le _,hnew,hge,hle,by rw[hS,Nat.mul_one],?_⟩⟩;rw[hL,List.take_replicate]
       congr 1
       omega
      refine ZcL hm hnx (t := .int k) rfl (c:=[]) (λ _ h=>by cases h) (by simp) hown (λ q hq => .inr (by simp[Value.ownBlock]at hq;omega)) rfl rfl rfl (by simp) (λ q hq _=>Below.heap_alloc w.drew _ q hq) (λ _ _=>False) (λ j p hp => ?_) (λ _ _ h=>h.elim) (λ _ _ _ _ h=>h.elim)
      have hp:(List.replicate (α := Int) n.toNat 0)[j]? = some p:=hp;have hj:j < n.toNat:=by have:=(List.getElem?_eq_some_iff.1 hp).1;rwa[List.length_replicate]at this
      rw[List.getElem?_replicate,if_pos hj]at hp
      cases hp
      show((List.replicate n.toNat (Value.int k 0)).drop (j*1)).take 1=[.int k 0];rw[List.drop_replicate,List.take_replicate,show min 1 (n.toNat - j*1)=1 by omega]
      rfl
     ·cases h
    ·cases h
   ·cases h
  ·cases h
 ·
  rename_i T kn n
  cases hy
  split at h
  ·
   rename_i i i' hi hi'
   split at h
   ·
    rename_i e k2 hk hk'
    have hu:P.underlying t=some (.slice e):=by have:=(hE t i hi).kind;rw[hk]at this;exact this
    have hu' : P.underlying t' = some (.int k2):=by have:=(hE t' i' hi').kind;rw[hk']at this;exact this
    split at h
    ·
     rename_i ie hie
     rw[Zbu]at h;obtain⟨o,ho,h⟩:=h
     split at h
     ·
      rename_i e' m' kk xs
      split at h
      ·
       rename_i k k' z0 hty hzero
       rw[ZaO,ZZ,ZZ,ZZ]at h;obtain⟨hc,rfl,h0,hlim,h⟩:=h;simp only[Bool.and_eq_true,Bool.not_eq_true']at hc;obtain⟨⟨⟨⟨⟨he', hck⟩,hc0⟩,hc1⟩,hc2⟩,hc3⟩:=hc;obtain rfl:=Nat.eq_of_beq_eq_true he';obtain rfl:=ZeE hck;obtain rfl:=ZeE hc0;have hc1:=Nat.eq_of_beq_eq_true hc1;have hb0:0 < ie.bytes:=Nat.pos_of_ne_zero λ h0=>by rw[h0]at hc2;cases hc2
       obtain⟨info,h1,h2,h3,h4⟩:=(hE e' ie hie).info;obtain⟨z,hz,hzc,hzl⟩:=h4 (by rw[hzero,hc1];rfl) (by omega);have hzl:=hzl hc3;rw[hty]at hzl;have hzl:z.cells.toList=[.int kk 0]:=hzl;have hzc:z.cells = #[.int kk 0]:=by rw[<-Array.toArray_toList (xs:=z.cells),hzl]
       have hlb:(List.length (α := Int) xs+n.toNat)*ie.bytes<=140737488355328:=by unfold lim at hlim;exact Nat.le_trans (Nat.mul_le_mul_right _ hlim) (Nat.div_mul_le_self _ _)
       have hnn:(List.length (α := Int) xs+n.toNat)*1<=(List.length (α := Int) xs+n.toNat)*ie.bytes:=Nat.mul_le_mul_left _ hb0;refine⟨_,_,h,λ hnx => ?_⟩;have hnx:=hnx nx (Nat.le_refl _) (by simp);obtain⟨zr,hzr,hrow⟩:=hm.obj T _ ho;obtain⟨z', hz', rfl,_⟩:=hx;rw[hzr]at hz'
       cases hz'
       obtain⟨inner,Fs,hown,hb,hEl,hsub⟩:=Zjl hzr hrow;have hown:w.ownsRow 0 e' 1 zr.hdr (List.length (α := Int) xs) inner:=hown;obtain⟨v', w', hrun,k1,k3,k4⟩:=Ziu (P:=P) (w:=w) (ty:=ty) (kq:=kn) (k:=kk) hu hu' h1 hz (by rw[h2,hc1]) hzc hown (m:=n.toNat) (by simp only[maxLen];omega) (by rw[h3];exact hlb);rw[Int.toNat_of_nonneg (by omega)]at hrun;have hblk:∀q,zr.hdr.ownBlock=some q->Of ρ [T] q:=λ q hq=>⟨T,zr,List.mem_singleton.2 rfl,hzr,hb q hq⟩
       refine⟨_,_,hrun,ZcL hm hnx (t := .int kk) rfl (c:=[T]) (λ U hU=>by rw[List.mem_singleton.1 hU,ho];rfl) (λ hin => ?_) (ys:=List.append (α := Int) xs (List.replicate (α := Int) n.toNat 0)) (inner:=inner++List.replicate n.toNat (.int kk 0)) ?_ (λ q hq=>(k4 q hq).imp (hblk q) id) k3.os k3.tape k3.output k3.size (λ q hq hno=>k3.block q hq λ he=>hno (hblk q he.symm)) (λ _ _=>False) (λ j p hp => ?_) (λ _ _ h=>h.elim) (λ _ _ _ _ h=>h.elim)⟩
       ·rw[List.mem_singleton.1 hin]at hnx;rw[hzr]at hnx;cases hnx
       ·
        have e:(List.append (α := Int) xs (List.replicate (α := Int) n.toNat 0)).length=List.length (α := Int) xs+n.toNat:=by show(xs++List.replicate (α := Int) n.toNat 0:List Int).length=_;rw[List.length_append,List.length_replicate]
        show w'.ownsRow 0 e' 1 v' (List.append (α := Int) xs (List.replicate (α := Int) n.toNat 0)).length _;rw[e];exact k1
       ·
        have hil:inner.length=List.length (α := Int) xs:=by have:=hown.1;omega
        show((inner++List.replicate n.toNat (Value.int kk 0)).drop (j*1)).take 1=[.int kk p];have hp:(xs++List.replicate (α := Int) n.toNat 0:List Int)[j]? = some p:=hp;rw[List.getElem?_append]at hp
        by_cases hj:j < List.length (α := Int) xs
        ·rw[if_pos hj]at hp;have he:((inner.drop (j*1)).take 1)=[Value.int kk p]:=hEl.el j p hp;rw[List.drop_append_of_le_length (by omega),List.take_append_of_le_length (by rw[List.length_drop];omega)];exact he
        ·
         rw[if_neg hj]at hp;have hj2:j - List.length (α := Int) xs < n.toNat:=by have:=(List.getElem?_eq_some_iff.1 hp).1;rwa[List.length_replicate]at this
         rw[List.getElem?_replicate,if_pos hj2]at hp
         cases hp
         rw[List.drop_append,List.drop_of_length_le (by omega),List.nil_append,List.drop_replicate,List.take_replicate,hil,show min 1 (n.toNat - (j*1 - List.length (α := Int) xs))=1 by omega]
         rfl
      ·cases h
     ·cases h
    ·cases h
   ·cases h
  ·cases h
 ·cases h
theorem Zhn (hm:Mem P B ρ Z (look ob) w) {E:Env} (hE:TtOk P E.tt) {nx:Nat} {t:TypeId} {lo hi:Option AV} {vlo vhi:Option Value} {x:AV} {vx:Value} (h:(Zgc E nx t lo hi x).run ob KK nd=some r) (hx:AR P B ρ Z w x vx)
  (hlo:(lo=none/\vlo=none)\/∃a v,lo=some a/\vlo=some v/\AR P B ρ Z w a v) (hhi:(hi=none/\vhi=none)\/∃a v,hi=some a/\vhi=some v/\AR P B ρ Z w a v):SaysF P B ρ Z ob w KK r nx (Instr.sliceAt t vx vlo vhi none):=by
 unfold Zgc at h
 split at h
 ·
  rename_i T
  rw[Zbu]at h;obtain⟨o,ho,h⟩:=h
  split at h
  ·exact ZeL hm hE h hx hlo hhi
  ·
   rename_i e' m t' xs hnot
   split at h
   ·
    rename_i i hi'
    split at h
    ·
     rename_i e hk
     have hu:P.underlying t=some (.slice e):=by have:=(hE t i hi').kind;rw[hk]at this;exact this
     have hel:P.elem t=e:=by simp[Program.elem,hu]
     have hue:P.underlying t=some (.slice (P.elem t)):=by rw[hel];exact hu
     split at h
     ·
      rename_i ie hie
      rw[ZaO,ZZ]at h;obtain⟨hc,hpos,h⟩:=h;simp only[Bool.and_eq_true]at hc;obtain⟨hc1,hc2⟩:=hc;have hc1:=Nat.eq_of_beq_eq_true hc1;have hc2:=Nat.eq_of_beq_eq_true hc2;subst hc1;have hse:∀w,(sizeOf (P.elem t)).run P w = .ok t'.size w:=λ w=>by rw[hel,Zce (hE _ ie hie),hc2]
      obtain⟨z,hz,inner,hown,hb,Fs,hel2,hsub,hdis⟩:=hm.obj T _ ho;obtain⟨z', hz', rfl,hone⟩:=hx;rw[hz]at hz'
      cases hz'
      have hlen:0 < (List.length (α := t'.den) xs):=by omega
      have hil:inner.length=List.length (α := t'.den) xs*t'.size:=hown.1;rcases hown.2 with ⟨_,h0⟩|⟨g,cap,cur,hv,hb0,hg,hnc,hcm,hcs,htake⟩
      ·have h0:List.length (α := t'.den) xs=0:=h0;omega
      ·
       have hnc:List.length (α := t'.den) xs<=cap:=hnc;have hv:z.hdr = .slice (some ⟨g,0,none⟩) (List.length (α := t'.den) xs) cap:=hv;rw[hv]
       split at h
       ·
        rename_i n h1 h2
        have e1:=ZbS h1;obtain⟨kk,e2⟩:=Zb7 h2;obtain⟨_,rfl⟩:lo=none/\vlo=none:=hlo.elim id λ⟨a,v,h,_⟩=>by rw[e1]at h;cases h
        obtain⟨a,v,ha,rfl,hav⟩:=hhi.resolve_left λ h=>by rw[e2]at h;cases h.1
        rw[e2]at ha
        cases ha
        cases hav
        rw[ZZ,ZZ]at h;obtain⟨g0,g1,h⟩:=h;have hyl:(List.take (α := t'.den) n.toNat xs).length=n.toNat:=by rw[List.length_take];omega
        have hnl:n.toNat<=List.length (α := t'.den) xs:=by omega
        refine⟨_,_,h,λ hnx=>⟨.slice (some ⟨g,0,none⟩) n.toNat cap,w,?_,?_⟩⟩
        ·
         rw[run_sliceAt_slice (P:=P) (w:=w) t _ _ _ _ hue,run_slice_h (P:=P) w t _ _ cap hue kk n g0 (by omega),hse];simp only[Result.andThen,sliced];have hc0:¬ cap=0:=by omega
         simp[hc0,Addr.add]
        ·
         have hn:=hnx nx (Nat.le_refl _) (by simp);have hTn:nx ∉ [T]:=λ q=>by
          rw[List.mem_singleton]at q;subst q;rw[hz]at hn
          cases hn
         have hal:Alive ob [T]:=λ U hU=>by rw[List.mem_singleton]at hU;subst hU;rw[ho];rfl
         have hOf:∀q,z.F q->Of ρ [T] q:=λ q hq=>⟨T,z,List.mem_singleton.2 rfl,hz,hq⟩
         have hFg:z.F g:=hb g (by rw[hv];rfl)
         have hmul:n.toNat*t'.size<=List.length (α := t'.den) xs*t'.size:=Nat.mul_le_mul_right _ hnl;refine ZcL hm hn (t:=t') (ys:=List.take (α := t'.den) n.toNat xs) (inner:=inner.take (n.toNat*t'.size)) rfl hal hTn ⟨?_,.inr ⟨g,cap,cur,?_,hb0,hg,?_,hcm,hcs,?_⟩⟩ (λ q hq => ?_) rfl rfl rfl (Nat.le_refl _) (λ _ _ _=>rfl) Fs (λ j p hp => ?_) (λ j q hq=>⟨hOf q (hsub j q hq).1,λ hh => ?_⟩) hdis
         ·show(inner.take (n.toNat*t'.size)).length=(List.take (α := t'.den) n.toNat xs).length*t'.size;rw[hyl,List.length_take];omega
         ·show _=Value.slice (some ⟨g,0,none⟩) (List.take (α := t'.den) n.toNat xs).length cap;rw[hyl]
         ·show(List.take (α := t'.den) n.toNat xs).length<=cap;rw[hyl];omega
         ·
          show cur.toList.take ((List.take (α := t'.den) n.toNat xs).length*t'.size)=inner.take (n.toNat*t'.size);have htake:cur.toList.take (List.length (α := t'.den) xs*t'.size)=inner:=htake;rw[hyl,<-htake,List.take_take]
          congr 1
          omega
         ·exact .inl (hOf q (by cases hq;exact hFg))
         ·
          have hp:(List.take (α := t'.den) n.toNat xs)[j]? = some p:=hp;rw[List.getElem?_take]at hp
          split at hp
          ·
           rename_i hj
           have hrj:=hel2 j p hp;have hj1:(j+1)*t'.size<=n.toNat*t'.size:=Nat.mul_le_mul_right _ hj;rw[Nat.add_mul,Nat.one_mul]at hj1;have e:((inner.take (n.toNat*t'.size)).drop (j*t'.size)).take t'.size=(inner.drop (j*t'.size)).take t'.size:=by
            rw[List.drop_take,List.take_take]
            congr 1
            omega
           show Rep Z w m t' p (((inner.take (n.toNat*t'.size)).drop (j*t'.size)).take t'.size) (Fs j);rw[e];exact hrj
          ·cases hp
         ·refine(hsub j q hq).2 ?_;rw[hv];exact hh
       ·
        rename_i n h1 h2
        have e2:=ZbS h2;obtain⟨kk,e1⟩:=Zb7 h1;obtain⟨_,rfl⟩:hi=none/\vhi=none:=hhi.elim id λ⟨a,v,h,_⟩=>by rw[e2]at h;cases h
        obtain⟨a,v,ha,rfl,hav⟩:=hlo.resolve_left λ h=>by rw[e1]at h;cases h.1
        rw[e1]at ha
        cases ha
        cases hav
        rw[ZaO,ZZ,ZZ]at h;obtain⟨hs1,g0,g1,h⟩:=h;have hs1:=Nat.eq_of_beq_eq_true hs1;refine(Z7 hm h (v:=sliced (some ⟨g,0,none⟩) n.toNat (List.length (α := t'.den) xs) cap 1) ?_ ⟨z,g,_,cap,hz,hv,by omega,rfl⟩).f nx;rw[run_sliceAt_slice (P:=P) (w:=w) t _ _ _ _ hue,run_slice_l (P:=P) w t _ _ cap hue kk n g0 g1,hse,hs1]
        rfl
       ·cases h
     ·cases h
    ·cases h
   ·cases h
  ·cases h
 ·
  cases hx
  split at h
  ·
   rename_i i hi'
   split at h
   ·
    rename_i e hk
    have hu:P.underlying t=some (.slice e):=by have:=(hE t i hi').kind;rw[hk]at this;exact this
    have hel:P.elem t=e:=by simp[Program.elem,hu]
    have hue:P.underlying t=some (.slice (P.elem t)):=by rw[hel];exact hu
    split at h
    ·
     rename_i ie hie
     split at h
     ·
      rename_i n h1 h2
      have e1:=ZbS h1;obtain⟨kk,e2⟩:=Zb7 h2;obtain⟨_,rfl⟩:lo=none/\vlo=none:=hlo.elim id λ⟨a,v,h,_⟩=>by rw[e1]at h;cases h
      obtain⟨a,v,ha,rfl,hav⟩:=hhi.resolve_left λ h=>by rw[e2]at h;cases h.1
      rw[e2]at ha
      cases ha
      cases hav
      rw[ZZ]at h;obtain⟨rfl,h⟩:=h;refine(Z7 hm h (v := .slice none 0 0) ?_ rfl).f nx;rw[run_sliceAt_slice (P:=P) (w:=w) t _ _ _ _ hue,run_slice_h (P:=P) w t _ _ 0 hue kk 0 (Int.le_refl _) (by simp),hel,Zce (hE _ ie hie)]
      rfl
     ·cases h
    ·cases h
   ·cases h
  ·cases h
 ·exact ZeL hm hE h hx hlo hhi
end
section
variable {P:Program} {B:Nat->Prop} {ρ : Rz} {Z:Nat->Prop} {ob:List (Nat×Ob)} {w:World} {β : Type} {KK:Eff->List Nat->Option β} {nd:List Nat} {r : β}
theorem ZkP (hm:Mem P B ρ Z (look ob) w) {E:Env} (hE:TtOk P E.tt) {t:TypeId} {lo hi:Option AV} {vlo vhi:Option Value} {x:AV} {vx:Value} (h:(pPre E t lo hi x).run ob KK nd=some r) (hx:AR P B ρ Z w x vx)
  (hlo:(lo=none/\vlo=none)\/∃a v,lo=some a/\vlo=some v/\AR P B ρ Z w a v) (hhi:(hi=none/\vhi=none)\/∃a v,hi=some a/\vhi=some v/\AR P B ρ Z w a v):Says P B ρ Z ob w KK r (Instr.sliceAt t vx vlo vhi none):=by
 unfold pPre at h
 split at h
 ·
  rename_i T
  split at h
  ·
   rename_i i hi'
   split at h
   ·
    rename_i e hk
    have hu:P.underlying t=some (.slice e):=by have:=(hE t i hi').kind;rw[hk]at this;exact this
    have hel:P.elem t=e:=by simp[Program.elem,hu]
    have hue:P.underlying t=some (.slice (P.elem t)):=by rw[hel];exact hu
    split at h
    ·
     rename_i ie hie
     rw[Zbu]at h;obtain⟨o,ho,h⟩:=h
     split at h
     ·
      rename_i e' m k xs
      rw[ZaO,ZZ]at h;obtain⟨hc,hpos,h⟩:=h;simp only[Bool.and_eq_true]at hc;obtain⟨hc1,hc2⟩:=hc;have hc1:=Nat.eq_of_beq_eq_true hc1;have hc2:=Nat.eq_of_beq_eq_true hc2;subst hc1;have hse:∀w,(sizeOf (P.elem t)).run P w = .ok 1 w:=λ w=>by rw[hel,Zce (hE _ ie hie),hc2]
      obtain⟨z,hz,inner,hown,hb,Fs,hel2,hsub,hdis⟩:=hm.obj T _ ho;obtain⟨z', hz', rfl,hone⟩:=hx;rw[hz]at hz'
      cases hz'
      have hlen:0 < (List.length (α := Int) xs):=by omega
      have hil:inner.length=List.length (α := Int) xs*1:=hown.1;rcases hown.2 with ⟨_,h0⟩|⟨g,cap,cur,hv,hb0,hg,hnc,hcm,hcs,htake⟩
      ·have h0:List.length (α := Int) xs=0:=h0;omega
      ·
       have hnc:List.length (α := Int) xs<=cap:=hnc;have hv:z.hdr = .slice (some ⟨g,0,none⟩) (List.length (α := Int) xs) cap:=hv;rw[hv]
       split at h
       ·
        rename_i n h1 h2
        have e1:=ZbS h1;obtain⟨kk,e2⟩:=Zb7 h2;obtain⟨_,rfl⟩:lo=none/\vlo=none:=hlo.elim id λ⟨a,v,h,_⟩=>by rw[e1]at h;cases h
        obtain⟨a,v,ha,rfl,hav⟩:=hhi.resolve_left λ h=>by rw[e2]at h;cases h.1
        rw[e2]at ha
        cases ha
        cases hav
        rw[ZZ,ZZ]at h;obtain⟨g0,g1,h⟩:=h;have hyl:(List.take (α := Int) n.toNat xs).length=n.toNat:=by rw[List.length_take];omega
        have hc0:¬ cap=0:=by omega
        refine Z7 hm h (v := .slice (some ⟨g,0,none⟩) n.toNat cap) ?_ ⟨z,g,_,cap,hz,hv,by omega,rfl⟩;rw[run_sliceAt_slice (P:=P) (w:=w) t _ _ _ _ hue,run_slice_h (P:=P) w t _ _ cap hue kk n g0 (by omega),hse];simp only[Result.andThen,sliced];simp[hc0,Addr.add]
       ·cases h
     ·cases h
    ·cases h
   ·cases h
  ·cases h
 ·cases h
theorem Zfv {k:IntKind} {xs:List Int} {inner:List Value} (hl:inner.length=xs.length*1) (h:∀(q:Nat) (p:Int),xs[q]? = some p->(inner.drop (q*1)).take 1=[Value.int k p]):inner=xs.map (Value.int k):=by
 apply List.ext_getElem (by rw[List.length_map];omega)
 intro i h1 h2;rw[List.length_map]at h2;have:=h i _ (List.getElem?_eq_getElem h2);rw[Nat.mul_one,List.drop_eq_getElem_cons h1,List.take_succ_cons,List.take_zero]at this;rw[List.getElem_map];exact(List.cons.inj this).1
def Reads (w:World) (k:IntKind) (vx:Value) (ys:List Int):Prop :=
 (∃cc,vx = .slice none 0 cc/\ys=[])\/∃ad cc,vx = .slice (some ad) ys.length cc/\∀j u,(ys.map (Value.int k))[j]? = some u->w.cell? (ad.add j)=some u
theorem ZhD (hm:Mem P B ρ Z (look ob) w) {e:TypeId} {k:IntKind} {x:AV} {vx:Value} {K:List Int->Pg Eff} (h:(Zjo e k x K).run ob KK nd=some r) (hx:AR P B ρ Z w x vx) :
  ∃ys nd', (K ys).run ob KK nd' = some r/\Reads w k vx ys:=by
 unfold Zjo at h
 split at h
 ·
  rename_i T n
  rw[Zbu]at h;obtain⟨o,ho,h⟩:=h
  split at h
  ·
   rename_i e' m k' xs
   rw[ZaO]at h;obtain⟨hc,h⟩:=h;obtain rfl:=ZeE hc;obtain⟨z,hz,inner,hown,hb,Fs,hel2,hsub,hdis⟩:=hm.obj T _ ho;obtain⟨z', g,n2,cap,hz', hg', hjn,rfl⟩:=hx;rw[hz]at hz'
   cases hz'
   have hil:inner.length=List.length (α := Int) xs*1:=hown.1;have hmap:inner=List.map (α := Int) (Value.int k') xs:=Zfv hil hel2;have hn2:n2=List.length (α := Int) xs:=by
    rcases hown.2 with ⟨hv,_⟩|⟨g2,cap2,cur,hv,_⟩
    ·rw[hg']at hv;cases hv
    ·rw[hg']at hv;cases hv;rfl
   have hcells:=hown.cells (g:=g) (by rw[hg'];rfl)
   have hyl:(List.take (α := Int) n xs).length=n:=by rw[List.length_take];omega
   refine⟨_,_,h,.inr ⟨⟨g,0,none⟩,cap,by rw[hyl],λ j u hu => ?_⟩⟩;rw[List.map_take,List.getElem?_take]at hu
   split at hu
   ·exact hcells j u (by rw[hmap];exact hu)
   ·cases hu
  ·cases h
 ·
  obtain⟨ys,c,nd', h,_,hadds⟩:=Zeg hm h hx;refine⟨ys,nd', h,?_⟩;rcases hadds with ⟨cc,e1,e2⟩|⟨ad,cc,news,Fs,e1,hE,hcells⟩
  ·exact .inl ⟨cc,e1,e2⟩
  ·have hmap:news=List.map (α := Int) (Value.int k) ys:=Zfv hE.len hE.el;rw[hmap]at hcells;exact .inr ⟨ad,cc,e1,hcells⟩
theorem ZmJ {t t2 ty e:TypeId} (hu:P.underlying t=some (.slice e)) (hse:∀w,(sizeOf e).run P w = .ok 1 w) {g:Nat} {cur:Array Value} {N cap j:Nat} (hg:w.heap[g]? = some (.cells cur e (0,0))) (hcs:cur.size=cap) (hN:N<=cap) (hj:j<=N) {k:IntKind} {vx:Value} {ys:List Int} (hr:Reads w k vx ys) :
  (Builtin.copy_ #[t,t2] ty #[sliced (some ⟨g,0,none⟩) j N cap 1,vx]).run P w = .ok (goInt (ys.take (N - j)).length) (w.setRow g (cur.toList.take j++(ys.take (N - j)).map (Value.int k)++cur.toList.drop (j+(ys.take (N - j)).length)).toArray):=by
 have hn:∀L:Nat,ys.length=L->Nat.min L (N - j)=(ys.take (N - j)).length:=λ L hL=>by rw[List.length_take,hL];exact Nat.min_comm _ _
 obtain⟨A,hA,hA0⟩:∃A,sliced (some ⟨g,0,none⟩) j N cap 1 = .slice (some A) (N - j) (cap - j)/\((ys.take (N - j)).length≠0->A=⟨g,j,none⟩):=by
  unfold sliced
  by_cases hc:cap=j
  ·refine⟨⟨g,0,none⟩,by rw[if_pos hc],λ h=>absurd ?_ h⟩;rw[List.length_take];omega
  ·refine⟨⟨g,j,none⟩,?_,λ _=>rfl⟩;rw[if_neg hc,Option.map_some,ZbJ];simp
 have hst:(storeCells A ((ys.take (N - j)).map (Value.int k)) 0).run P w = .ok () (w.setRow g (cur.toList.take j++(ys.take (N - j)).map (Value.int k)++cur.toList.drop (j+(ys.take (N - j)).length)).toArray):=by
  by_cases h0:(ys.take (N - j)).length=0
  ·
   have e0:ys.take (N - j)=[]:=List.eq_nil_of_length_eq_zero h0;rw[e0];simp only[List.map_nil,storeCells,List.append_nil,List.length_nil,Nat.add_zero,List.take_append_drop,Array.toArray_toList];rw[setRow_self w g cur e (0,0) hg]
   rfl
  ·
   rw[hA0 h0];have hl:(ys.take (N - j)).length<=N - j:=by rw[List.length_take];omega
   have:=run_storeCells_at P g j e ((ys.take (N - j)).map (Value.int k)) 0 cur w hg (by rw[List.length_map];omega) (λ v hv=>by obtain⟨q,_,rfl⟩:=List.mem_map.1 hv;rfl)
   rw[Nat.add_zero,List.length_map]at this;exact this
 rw[hA];rcases hr with ⟨cc,rfl,rfl⟩|⟨ad,cc,rfl,hcells⟩
 ·simp only[List.take_nil,List.map_nil,List.length_nil]at hst ⊢;simp[Builtin.copy_,run_underlying hu,Builtin.lenOf,hse,run_firstCells_none,hst,goInt]
 ·
  have hf:=run_firstCells_some (P:=P) w 1 (ys.take (N - j)).length ad ys.length cc ((ys.take (N - j)).map (Value.int k)) (by rw[List.length_map];omega) (λ i u hu' => by
   rw[List.map_take,List.getElem?_take]at hu'
   split at hu'
   ·exact hcells i u hu'
   ·cases hu')
  have hmin:=hn _ rfl
  generalize ys.take (N - j)=zs at hf hst hmin ⊢
  have hmin2:min ys.length (N - j)=zs.length:=hmin
  generalize List.map (Value.int k) zs=cs at hf hst ⊢
  simp[Builtin.copy_,run_underlying hu,Builtin.lenOf,hse,hmin2,hf,hst,goInt]
theorem ZeK (hm:Mem P B ρ Z (look ob) w) {t t2 ty e:TypeId} (hu:P.underlying t=some (.slice e)) (hse:∀w,(sizeOf e).run P w = .ok 1 w) {T j:Nat} {s:AV} {vx vs:Value} (h:(Zer e T j s).run ob KK nd=some r)
  (hx:∃z g n c,ρ T=some z/\(0 < n->z.hdr = .slice (some ⟨g,0,none⟩) n c/\j<=n/\vx=sliced (some ⟨g,0,none⟩) j n c 1)/\∃A,z.hdr = .slice A n c) (hs:AR P B ρ Z w s vs) :
  ∃e' nd', KK e' nd' = some r/\∃v w', (Builtin.copy_ #[t,t2] ty #[vx,vs]).run P w = .ok v w' /\ Done P B ρ Z ob w e' v w' := by
 unfold Zer at h;rw[Zbu]at h;obtain⟨o,ho,h⟩:=h
 split at h
 ·
  rename_i e' m k xs
  rw[ZaO,ZZ]at h;obtain⟨hc,hpos,h⟩:=h;obtain rfl:=Nat.eq_of_beq_eq_true hc;obtain⟨ys,nd', h,hreads⟩:=ZhD hm h hs;obtain⟨z,hz,inner,hown,hb,Fs,hel2,hsub,hdis⟩:=hm.obj T _ ho;obtain⟨z', g,n,cap,hz', hx,A,hA⟩:=hx;rw[hz]at hz'
  cases hz'
  have hil:inner.length=List.length (α := Int) xs*1:=hown.1;have hmap:inner=List.map (α := Int) (Value.int k) xs:=Zfv hil hel2;rcases hown.2 with ⟨hv,h0⟩|⟨g2,cap2,cur,hv,hb0,hg,hnc,hcm,hcs,htake⟩
  ·have h0:List.length (α := Int) xs=0:=h0;omega
  have hv:z.hdr = .slice (some ⟨g2,0,none⟩) (List.length (α := Int) xs) cap2:=hv;obtain⟨e1,e2,e3⟩:n=List.length (α := Int) xs/\cap=cap2/\A=some ⟨g2,0,none⟩:=by rw[hA]at hv;cases hv;exact⟨rfl,rfl,rfl⟩
  subst e2;obtain⟨hg', hjn,rfl⟩:=hx (by omega);obtain rfl:g=g2:=by rw[hg']at hv;cases hv;rfl
  have hnc:List.length (α := Int) xs<=cap:=hnc;have hcs:cur.size=cap*1:=hcs;have htake:cur.toList.take (List.length (α := Int) xs*1)=inner:=htake;have hFg:z.F g:=hb g (by rw[hg'];rfl);obtain⟨N,hN⟩:∃N,N=List.length (α := Int) xs:=⟨_,rfl⟩
  rw[e1]at hjn ⊢;have hrun:=ZmJ (P:=P) (t:=t) (t2:=t2) (ty:=ty) hu hse hg (by rw[hcs,Nat.mul_one]) hnc hjn hreads;obtain⟨rest,hrest⟩:∃rest,cur.toList=List.map (α := Int) (Value.int k) xs++rest:=⟨cur.toList.drop (List.length (α := Int) xs),by rw[<-hmap,<-htake,Nat.mul_one,List.take_append_drop]⟩
  obtain⟨xs', hxs'⟩:∃xs' : List Int,xs' = List.take (α := Int) j xs++List.take (α := Int) (List.length (α := Int) xs - j) ys++List.drop (α := Int) (j+(List.take (α := Int) (List.length (α := Int) xs - j) ys).length) xs:=⟨_,rfl⟩
  have hln:(List.take (α := Int) (List.length (α := Int) xs - j) ys).length<=List.length (α := Int) xs - j:=by rw[List.length_take];omega
  have hl' : xs'.length=List.length (α := Int) xs:=by
   rw[hxs', List.length_append,List.length_append,List.length_drop];have:(List.take (α := Int) j xs).length=j:=by rw[List.length_take];omega
   omega
  have hcur' : cur.toList.take j++(List.take (α := Int) (List.length (α := Int) xs - j) ys).map (Value.int k)++cur.toList.drop (j+(List.take (α := Int) (List.length (α := Int) xs - j) ys).length)=List.map (Value.int k) xs' ++ rest:=by have hml:(List.map (α := Int) (Value.int k) xs).length=List.length (α := Int) xs:=List.length_map ..;rw[hrest,List.take_append_of_le_length (by omega),List.drop_append_of_le_length (by omega),hxs'];simp only[List.map_append,List.map_take,List.map_drop,List.append_assoc]
  rw[hcur']at hrun;have hrl:rest.length+List.length (α := Int) xs=cap:=by have:=congrArg List.length hrest;rw[Array.length_toList,List.length_append,List.length_map,hcs,Nat.mul_one]at this;have e:(List.length (α := Int) xs)=xs.length:=rfl;omega
  let W' := w.setRow g (List.map (Value.int k) xs' ++ rest).toArray
  have hD:=ZcV hm (o := .row e' m (.int k) xs') ho hz rfl (z' := z) (c:=[]) (w' := W') (λ _ h=>by cases h) (by simp) (λ q hq => .inl hq) rfl rfl rfl (by simp[W']) (λ q hq=>setRow_other w g q _ (λ e=>hq (e ▸ hFg))) (by
   rw[Zd9 hz];refine⟨List.map (Value.int k) xs', ⟨?_,.inr ⟨g,cap,_,?_,hb0,setRow_heap w g cur _ e' (0,0) hg,?_,hcm,?_,?_⟩⟩,hb,Fs,λ q p hp => ?_,hsub,hdis⟩
   ·show(List.map (Value.int k) xs').length=xs'.length*1;rw[List.length_map,Nat.mul_one]
   ·show z.hdr=Value.slice (some ⟨g,0,none⟩) xs'.length cap;rw[hl', hv]
   ·show xs'.length<=cap;rw[hl'];exact hnc
   ·show(List.map (Value.int k) xs' ++ rest).toArray.size=cap*1;rw[List.size_toArray,List.length_append,List.length_map];omega
   ·show(List.map (Value.int k) xs' ++ rest).toArray.toList.take (xs'.length*1)=_;rw[Nat.mul_one,List.toList_toArray,List.take_append_of_le_length (by rw[List.length_map];omega),List.take_of_length_le (by rw[List.length_map];omega)]
   ·
    have hp:xs'[q]? = some p:=hp;show((List.map (Value.int k) xs').drop (q*1)).take 1=[Value.int k p];have hq:=(List.getElem?_eq_some_iff.1 hp).1;have hq2:q < (List.map (Value.int k) xs').length:=by rw[List.length_map];exact hq
    rw[Nat.mul_one,List.drop_eq_getElem_cons hq2,List.take_succ_cons,List.take_zero,List.getElem_map,(List.getElem?_eq_some_iff.1 hp).2])
  obtain⟨ρ', Z', d1,d2,d3,d4⟩:=hD;rw[hxs']at d1 d2 d4;refine⟨_,_,h,_,W', hrun,ρ', Z', d1,d2,?_,d4⟩
  rfl
 ·cases h
theorem Zi8 (hm:Mem P B ρ Z (look ob) w) {E:Env} (hE:TtOk P E.tt) {t t2 ty:TypeId} {x s:AV} {vx vs:Value} (h:(pCopy E t x s).run ob KK nd=some r) (hx:AR P B ρ Z w x vx) (hs:AR P B ρ Z w s vs) :
  ∃e nd', KK e nd' = some r/\∃v w', (Builtin.copy_ #[t,t2] ty #[vx,vs]).run P w = .ok v w' /\ Done P B ρ Z ob w e v w' := by
 unfold pCopy at h
 split at h
 ·
  rename_i i hi'
  split at h
  ·
   rename_i e hk
   have hu:P.underlying t=some (.slice e):=by have:=(hE t i hi').kind;rw[hk]at this;exact this
   split at h
   ·
    rename_i ie hie
    rw[ZaO]at h;obtain⟨hc,h⟩:=h;have hse:∀w,(sizeOf e).run P w = .ok 1 w:=λ w=>by rw[Zce (hE _ ie hie),Nat.eq_of_beq_eq_true hc]
    split at h
    ·
     rename_i T
     obtain⟨z,hz,rfl,hone⟩:=hx;have h2:=h;unfold Zer at h2;rw[Zbu]at h2;obtain⟨o,ho,_⟩:=h2;obtain⟨z', hz', hor⟩:=hm.obj T _ ho;refine ZeK hm hu hse h ?_ hs;rw[hz]at hz'
     cases hz'
     cases o with
     | row e' m t' xs =>
      obtain⟨inner,hown,_⟩:=hor;rcases hown.2 with ⟨hv,h0⟩|⟨g,cap,cur,hv,_,_,hnc,_⟩
      ·exact⟨z,0,0,0,hz,λ h=>absurd h (Nat.lt_irrefl 0),none,hv⟩
      ·
       refine⟨z,g,_,cap,hz,λ hp=>⟨hv,Nat.zero_le _,?_⟩,_,hv⟩;rw[hv];unfold sliced
       by_cases hc:cap=0
       ·rw[if_pos hc];rfl
       ·rw[if_neg hc,Option.map_some,ZbJ];simp
     | box t ro cells=>unfold Zer at h;rw[Zbu]at h;obtain⟨o', ho', h⟩:=h;rw[ho]at ho';cases ho';cases h
     | hole e t xs hl=>unfold Zer at h;rw[Zbu]at h;obtain⟨o', ho', h⟩:=h;rw[ho]at ho';cases ho';cases h
    ·
     rename_i T j
     obtain⟨z,g,n,c,hz,hv,hjn,rfl⟩:=hx;exact ZeK hm hu hse h ⟨z,g,n,c,hz,λ _=>⟨hv,hjn,rfl⟩,_,hv⟩ hs
    ·cases h
   ·cases h
  ·cases h
 ·cases h
theorem Zig (hm:Mem P B ρ Z (look ob) w) {E:Env} (hE:TtOk P E.tt) {src dst:TypeId} {x:AV} {vx:Value} (h:(ZlV E src dst x).run ob KK nd=some r) (hx:AR P B ρ Z w x vx):Says P B ρ Z ob w KK r (convert src dst vx):=by
 unfold ZlV at h
 split at h
 ·
  rename_i T
  split at h
  ·
   rename_i i j hi hj
   split at h
   ·
    rename_i e hki hkj
    have hu:P.underlying src=some (.slice e):=by have:=(hE src i hi).kind;rw[hki]at this;exact this
    have hd:P.underlying dst=some .string:=by have:=(hE dst j hj).kind;rw[hkj]at this;exact this
    split at h
    ·
     rename_i ie hie
     split at h
     ·
      rename_i hke
      have he:P.underlying e=some (.int .u8):=by have:=(hE e ie hie).kind;rw[hke]at this;exact this
      rw[Zbu]at h;obtain⟨o,ho,h⟩:=h
      split at h
      ·
       rename_i e' m xs
       rw[ZZ]at h;obtain⟨hpos,h⟩:=h;obtain⟨z,hz,inner,hown,hb,Fs,hel2,hsub,hdis⟩:=hm.obj T _ ho;obtain⟨z', hz', rfl,hone⟩:=hx;rw[hz]at hz'
       cases hz'
       have hlen:0 < (List.length (α := Int) xs):=by omega
       have hmap:inner=List.map (α := Int) (Value.int .u8) xs:=Zfv (xs:=xs) hown.1 hel2;obtain⟨g,cap,hv,hnc,hbig,hc⟩:=ZbQ hown hlen (Nat.one_pos:0 < 1);refine Z7 hm h (v := .string (ZiI xs)) ?_ rfl;rw[hv];have e2:=run_loadCells_list (P:=P) (w:=w) ⟨g,0,none⟩ inner λ q v hq=>by rw[ZbJ,Nat.zero_add];exact(hc q v hq).1
       rw[hmap,List.length_map]at e2;have e3:=run_bytesToString (P:=P) w ⟨g,0,none⟩ (List.length (α := Int) xs) cap xs e2;have e4:=run_convert_bytes_string (P:=P) w src dst e (some ⟨g,0,none⟩) (List.length (α := Int) xs) cap hu he hd;rw[Zkr];exact e4.trans e3
      ·cases h
     ·cases h
    ·cases h
   ·cases h
  ·cases h
 ·exact Zi7 hm hE h hx
end
section
variable {P:Program} {B Z:Nat->Prop} {ρ : Rz} {ob:List (Nat×Ob)} {w w' : World} {β : Type} {KK:Eff->List Nat->Option β} {nd:List Nat} {r : β}
def Exec (P:Program) (o:Oper) (a:Act) (w:World) (R:Value->World->Prop):Prop:=∀(K:Act->World->Prop) (Q:Exit->Act->World->Prop),(∀v w', R v w' -> K (a.put o.dst v) w')->o.wp P a w K Q
theorem ZbF {o:Oper} {a:Act} {R:Value->World->Prop} {v:Value} (h:(execOp a.eval o).run P w = .ok (.value v) w') (hR:R v w'):Exec P o a w R:=λ K Q hK=>by unfold Oper.wp;rw[h];exact hK v w' hR
theorem Zgz {o:Oper} {a:Act} {R:Value->World->Prop} {s:Sem Value} (h:execOp a.eval o=(do pure (.value (<-s)))) (hs:Gives P s w R):Exec P o a w R:=by obtain⟨v,w', hr,hR⟩:=hs;exact ZbF (by rw[h];simp[hr]) hR
theorem Zf5 {α β : Type} (xs:Array α) (f : α -> β):(xs.toList.map f).toArray=xs.map f:=by
 apply Array.ext'
 simp
def Zjt (P:Program) (B:Nat->Prop) (ρ : Rz) (Z:Nat->Prop) (ob:List (Nat×Ob)) (w:World) (KK:Eff->List Nat->Option β) (r : β) (nx:Nat) (o:Oper) (a:Act):Prop :=
 ∃e nd', KK e nd' = some r/\((∀T,nx<=T->T < nx+e.add.length -> ρ T=none)->Exec P o a w λ v w' => Done P B ρ Z ob w e v w')
theorem Zb6 {nx:Nat} {o:Oper} {a:Act} {s:Sem Value} (h:SaysF P B ρ Z ob w KK r nx s) (he:execOp a.eval o=(do pure (.value (<-s)))):Zjt P B ρ Z ob w KK r nx o a:=by obtain⟨e,nd', h1,h2⟩:=h;exact⟨e,nd', h1,λ hf=>Zgz he (h2 hf)⟩
theorem Zco {f:Operand->Option AV} {x:Operand} {g:AV->Pg Eff} (h:(on1 f x g).run ob KK nd=some r):∃v,f x=some v/\(g v).run ob KK nd=some r:=by
 unfold on1 at h
 split at h
 ·exact⟨_,‹_›,h⟩
 ·cases h
theorem Zc1 {f:Operand->Option AV} {x y:Operand} {g:AV->AV->Pg Eff} (h:(on2 f x y g).run ob KK nd=some r):∃v u,f x=some v/\f y=some u/\(g v u).run ob KK nd=some r:=by
 unfold on2 at h
 split at h
 ·exact⟨_,_,‹_›,‹_›,h⟩
 ·cases h
theorem ZlD {f:Operand->Option AV} {a:Act} (hf:∀x av,f x=some av->AR P B ρ Z w av (a.eval x)):∀(xs:List Operand) (vs:List AV),evs f xs=some vs->AVs P B ρ Z w vs (xs.map a.eval)
 | [],vs,h=>by cases h;rfl
 | x :: xs,vs,h=>by
  unfold evs at h
  split at h
  ·
   rename_i v us h1 h2
   cases h
   exact⟨_,_,rfl,hf x v h1,ZlD hf xs us h2⟩
  ·cases h
theorem AVs.append:∀{l1 l2:List AV} {v1 v2:List Value},AVs P B ρ Z w l1 v1->AVs P B ρ Z w l2 v2->AVs P B ρ Z w (l1++l2) (v1++v2)
 | [],_,_,_,h,h' => by cases h;exact h'
 | a :: l,_,_,_,⟨v,vs', h1,h2,h3⟩,h' => by subst h1;exact⟨v,vs' ++ _,rfl,h2,AVs.append h3 h'⟩
theorem ZjA:∀{caps:List (Nat×Nat)} {vs:List Value},CapsR ρ caps vs->AVs P B ρ Z w (Zla caps) vs
 | [],_,h=>h
 | (T,o) :: r,_,⟨v,vs', h1,h2,h3⟩=>⟨v,vs', h1,h2,ZjA h3⟩
theorem Ziv {g:FuncId} (hc:Callable P g) (asx:Array Value):(callFunc g asx).run P w = .ok (.enter g asx) w:=by
 obtain⟨fn,h1,h2,h3⟩:=hc;have hb:fn.body.isNone=false:=by cases h:fn.body <;> simp[h]at h3 ⊢
 simp only[callFunc,Sem.run_bind,run_program,Result.andThen,h1,h2,hb,Bool.false_eq_true,if_false,Sem.run_pure]
theorem Zh1 {o:Oper} {a:Act} {c:Call} (ho:o.op = .call c) {x:Operand} (hx:c.callee = .value x) {g:FuncId} {first caps:Array Value} (hv:a.eval x = .func (.func g) first caps) (hc:Callable P g) {R:Value->World->Prop}
  (h:Calls P g (first++c.args.map a.eval++caps) w λ en w' => ∃v,en = .returned v/\R v w'):Exec P o a w R:=λ K Q hK=>by
 have hr:(execOp a.eval o).run P w = .ok (.enter g (first++c.args.map a.eval++caps)) w:=by unfold execOp;simp[ho,resolve,hx,hv,Deferred.ofValue,invoke,Ziv hc]
 unfold Oper.wp;rw[hr,Oper.upon_enter];refine h.mono λ e w'' hh => ?_
 obtain⟨v,rfl,hR⟩:=hh;exact hK v w'' hR
theorem ZkC (hm:Mem P B ρ Z (look ob) w) (hb:Below w.heap.size w w') {av:AV} {v:Value} (hv:AR P B ρ Z w' av v):Done P B ρ Z ob w ⟨av,[],[]⟩ v w' := by
 have hzs:ZbL Z w w' := λ k hk=>hb.block k (hm.zlt k hk)
 have hbs:ZbL B w w' := λ k hk=>hb.block k (hm.blt k hk)
 have hf:Fut B ρ Z w ρ Z w' := ⟨λ _ h=>h,hzs,hbs,λ T z h=>⟨z,h,rfl⟩⟩;have hlt:∀k,Own ρ (look ob) k->k < w.heap.size:=λ k hk=>(hm.zsep k hk).2
 refine⟨ρ,Z,Zia hm (λ _=>False) hf (λ T _ => .inl rfl) (λ T _=>rfl) (λ T z _ hs hz=>⟨λ k hk=>hb.block k (hlt k ⟨T,z,hs,hz,hk⟩),λ k hk=>(hm.zsep k ⟨T,z,hs,hz,hk⟩).1⟩) (λ _ _ h=>h.elim) (λ _ _ _ h=>h.elim) hb.size (λ k hk=>Nat.lt_of_lt_of_le (hm.zlt k hk) hb.size),
  ⟨hb.os,hb.tape,hb.output,hb.size,λ k hk _=>hb.block k hk,λ k hk => .inl hk,λ k hk => .inl hk,λ _ h=>h,λ T z h=>⟨z,h,rfl⟩⟩,hv,λ _ h _=>h⟩
theorem Zfk (hm:Mem P B ρ Z (look ob) w) {γ : Type} {β : Type} {KK : γ -> List Nat->Option β} {r : β}:∀(asx:List Ty) (avs:List AV) (vs:List Value) (nd:List Nat) (K:dens asx->Pg γ),(ZjQ asx avs K).run ob KK nd=some r->AVs P B ρ Z w avs vs ->
  ∃x c nd', (K x).run ob KK nd' = some r/\ZdG (Zc Z ρ c) w asx x vs/\Alive ob c
 | [],[],vs,nd,K,h,hv=>⟨(),[],nd,h,hv,Alive.nil⟩
 | [],_ :: _,vs,nd,K,h,hv=>by cases h
 | _ :: _,[],vs,nd,K,h,hv=>by cases h
 | t :: asx,av :: avs,vs,nd,K,h,⟨v,vs', e1,h2,h3⟩=>by
  subst e1;unfold ZjQ at h
  split at h
  ·
   rename_i ls hls
   rw[ZaO]at h;obtain⟨hlf,h⟩:=h;obtain⟨hl,hok⟩:=Zdc hls h2;obtain⟨x,ls', c,nd1,cs,us,h,hvs,hl', htell,hal,hcl⟩:=Zdz hm _ _ _ _ _ h hl;rw[ZaO]at h;obtain⟨he,h⟩:=h;have hls' : ls' = []:=by simpa using he
   subst hls'
   cases hl'
   rw[List.append_nil]at hvs;obtain⟨y,c', nd2,h,hrep,hal'⟩:=Zfk hm asx avs vs' nd1 _ h h3;have mono:∀(asx:List Ty) (y:dens asx) (vs:List Value),ZdG (Zc Z ρ c') w asx y vs->ZdG (Zc Z ρ (c++c')) w asx y vs:=by
    intro asx
    induction asx with
    | nil=>intro y vs h;exact h
    | cons t asx ih =>
     intro y vs ⟨v,cs,r,h1,h2,h3,h4,h5⟩;exact⟨v,cs,r,h1,h2,h3,Rep.imp t h4 (λ k hk=>hk.imp id Of.right) (λ _ h=>h) (λ _ _=>rfl) (λ _ _=>rfl),ih _ _ h5⟩
   refine⟨(x,y),c++c', nd2,h,⟨v,cs,vs', rfl,hvs,λ hone => ?_,Rep.imp t htell (λ k hk=>hk.imp id Of.left) (λ _ h=>h) (λ _ _=>rfl) (λ _ _=>rfl),mono asx y vs' hrep⟩,hal.append hal'⟩;rw[hone]at hlf
   cases av with
   | lf l=>exact LR.one h2 (by
     simp only[cellsOf]at hls
     cases hk:l.ok with
     | true=>rfl
     | false=>rw[hk]at hls;cases hls)
   | agg ls2=>cases hlf
   | tup _=>cases hls
  ·cases h
theorem Zi6 {E:Env} (hE:ZdB P E.con) (hm:Mem P B ρ Z (look ob) w) {nx:Nat} {avs:List AV} {o:Oper} {a:Act} {c:Call} (ho:o.op = .call c) {x:Operand} (hx:c.callee = .value x) {gv:AV} (hv:AR P B ρ Z w gv (a.eval x)) (hvs:AVs P B ρ Z w avs (c.args.toList.map a.eval)) (h:(pCall E nx avs gv).run ob KK nd=some r):Zjt P B ρ Z ob w KK r nx o a:=by
 have hargs:c.args.map a.eval=(c.args.toList.map a.eval).toArray:=(Zf5 _ _).symm;unfold pCall at h
 split at h
 ·
  rename_i g caps
  obtain⟨us,hu,hcaps⟩:=hv
  split at h
  ·
   rename_i cn hcn
   have hV:=hE g cn hcn;obtain⟨e,nd', h1,h2⟩:=ZkM hE hm hV h (hvs.append (ZjA hcaps));refine⟨e,nd', h1,λ hf=>Zh1 ho hx hu hV.1 ?_⟩;have:=h2 hf;rw[hargs];rw[show(c.args.toList.map a.eval++us).toArray = #[]++(c.args.toList.map a.eval).toArray++us.toArray by simp]at this;exact this
  ·cases h
 ·
  rename_i asx rt f
  rw[ZaO]at h;obtain⟨hfl,h⟩:=h;simp only[Bool.and_eq_true]at hfl;obtain⟨y,cl,nd1,h,hrep,hal⟩:=Zfk hm asx avs _ nd _ h hvs;rw[Zhz]at h;obtain⟨yv,hyv,h⟩:=h;obtain⟨g,first,caps,hg,hcall,hf⟩:=hv;refine⟨_,nd1,h,λ _=>Zh1 ho hx hg hcall ?_⟩;rw[hargs];refine(hf w (Zc Z ρ cl) y yv _ (λ _ _=>rfl) hyv (λ k hk=>hk.elim (hm.zlt k) λ h=>(hm.zsep k (h.own hal)).2) hrep).mono ?_;rintro en w' ⟨u,rfl,hu,hb⟩;refine⟨u,rfl,ZkC hm hb ?_⟩;exact(ZiZ (Rep.imp rt hu (λ _ h=>h.elim) (λ _ h=>h) (λ _ h=>h.elim) (λ _ h=>h.elim))).1
 ·cases h
theorem Zf8 {ins:List ASh} {t a:Ty} {f:t.den->a.den->lsd (flats ins)} (h:Zf7 ins=some ⟨t,a,f⟩) {Z1:Nat->Prop} {w1:World} {x:t.den} {y:a.den} {u v:Value} (hu:Rep Z1 w1 false t x [u] λ _=>False) (hv:Rep Z1 w1 false a y [v] λ _=>False):ASRs P B Z1 w1 ins (f x y) [.agg [u].toArray,v] λ _=>False:=by
 unfold Zf7 at h
 split at h
 ·
  cases h
  exact⟨_,_,λ _=>False,λ _=>False,rfl,⟨[u],rfl,u,[],λ _=>False,λ _=>False,rfl,hu,rfl,λ _ h=>h,λ _ h=>h,λ _ h=>h.elim⟩,⟨v,[],λ _=>False,λ _=>False,rfl,hv,rfl,λ _ h=>h,λ _ h=>h,λ _ h=>h.elim⟩,λ _ h=>h,λ _ h=>h,λ _ h=>h.elim⟩
 ·cases h
theorem Zjc {E:Env} (hE:ZdB P E.con) (hm:Mem P B ρ Z (look ob) w) {g:FuncId} {av:AV} {v:Value} (h:(pMeth E g av).run ob KK nd=some r) (hv:AR P B ρ Z w av v):Says P B ρ Z ob w KK r (Instr.makeFunc (.func g) #[v] #[]):=by
 unfold pMeth at h
 split at h
 ·
  rename_i l
  obtain⟨vs,rfl,u,vs', rfl,hu,hvs'⟩:=hv
  cases hvs'
  split at h
  ·
   rename_i c hc
   split at h
   ·
    rename_i t a f rt o hms hout
    rw[ZaO]at h;obtain⟨hfl,h⟩:=h;simp only[Bool.and_eq_true]at hfl;obtain⟨x0,cl,nd', h,htell,hal⟩:=Zd1 hm h hu;rw[ZaO]at h;obtain⟨hcl,h⟩:=h;have hcl:cl=[]:=by simpa using hcl
    subst hcl;have hx0:Rep Z w false t x0 [u] λ _=>False:=Rep.imp t htell (λ k hk=>hk.elim id λ⟨T,_,hT,_⟩=>by cases hT) (λ _ h=>h) (λ _ _=>rfl) (λ _ _=>rfl)
    refine Z7 hm h (v := .func (.func g) #[.agg [u].toArray] #[]) rfl ⟨g,#[.agg [u].toArray],#[],rfl,(hE g c hc).1,?_⟩;intro w1 Z1 x yv us hsame hf hz1 hargs;obtain⟨va,cs,rr,rfl,hcs,hone,hrep,hrr⟩:=hargs
    cases hrr
    have hone:=hone hfl.1.1;have hcs:cs=[va]:=by
     rw[<-hcs]
     cases va <;> first|rfl|cases hone
    subst hcs;simp only[]at hf
    cases hcf:c.f (f x0 x.1)with
    | none=>rw[hcf]at hf;cases hf
    | some yz =>
     rw[hcf]at hf;have hf:o (c.dec yz).1=yv:=Option.some.inj hf;have hcall:=(hE g c hc).2 _ yz hcf (λ k=>Z1 k\/Z k) (λ _=>False) (λ _=>False) w1 [.agg [u].toArray,va]
      (Zf8 hms (Rep.imp t hx0 (λ _ h => .inr h) (λ _ h=>h) (λ k hk=>hsame k (.inl hk)) (λ _ h=>h.elim)) (Rep.imp a hrep (λ _ h => .inl h) (λ _ h=>h) (λ _ _=>rfl) (λ _ _=>rfl))) (λ _ h=>h.elim)
      (λ k hk=>hk.elim (hz1 k) λ h=>ZeX (hm.zlt k h) (hsame k (.inl h))) (λ _ h=>h.elim)
     refine hcall.mono λ e w2 ⟨u', he,Z', Fi,Fo,hp⟩=>⟨u', he,?_,hp.os,hp.tape,hp.output,hp.size,λ k hk=>hp.old k hk λ h=>h⟩
     obtain⟨us', hu', hr⟩:=hp.out;obtain⟨v', rfl,hrep'⟩:=ZlT hout hr;have hu' : u' = v' := hu';rw[hu', <-hf];exact Rep.flat _ hfl.1.2 hrep'
   ·cases h
  ·cases h
 ·cases h
theorem ZlX {E:Env} (hE:ZdB P E.con) (hm:Mem P B ρ Z (look ob) w) {f:Operand->Option AV} {a:Act} (hf:∀x av,f x=some av->AR P B ρ Z w av (a.eval x)) {g:FuncId} {first caps:List Operand} (h:(pFn E f g first caps).run ob KK nd=some r) :
  Says P B ρ Z ob w KK r (Instr.makeFunc (.func g) (first.map a.eval).toArray (caps.map a.eval).toArray):=by
 unfold pFn at h
 split at h
 ·
  rename_i x
  obtain⟨v,hv,h⟩:=Zco h;exact Zjc hE hm h (hf x v hv)
 ·exact Zi9 hm hf h
theorem Zfu {f:Operand->Option AV} {a:Act} (hf:∀x av,f x=some av->AR P B ρ Z w av (a.eval x)) {x:Option Operand} {l:Option AV} (h:evo f x=some l):(l=none/\x.map a.eval=none)\/∃av v,l=some av/\x.map a.eval=some v/\AR P B ρ Z w av v:=by
 unfold evo at h
 split at h
 ·cases h;exact .inl ⟨rfl,rfl⟩
 ·
  rename_i y
  split at h
  ·
   rename_i v hv
   cases h
   exact .inr ⟨v,_,rfl,rfl,hf y v hv⟩
  ·cases h
theorem Zl7 {α : Type}:∀(a b l:List (Nat × α)),pts (a++b) l=pts b (pts a l)
 | [],b,l=>rfl
 | (n,x) :: r,b,l=>Zl7 r b (pt n x l)
theorem Zfz:∀(ts:List Ty) (ls:List Lf) (nx:Nat) (ρ : Rz) (ob:List (Nat×Ob)) (vs:List Value),Mem P B ρ Z (look ob) w->(∀T,nx<=T->T < nx+(Zbt ts ls nx).2.length -> ρ T=none)->LRs P B ρ Z w ls vs ->
  ∃ρ', Mem P B ρ' Z (look (pts (Zbt ts ls nx).2 ob)) w/\Trn ρ Z (look ob) w ρ' Z (look (pts (Zbt ts ls nx).2 ob)) w/\LRs P B ρ' Z w (Zbt ts ls nx).1 vs/\(lfsOk ls=true->lfsOk (Zbt ts ls nx).1=true)/\(∀T,ρ T=none->(T < nx\/nx+(Zbt ts ls nx).2.length<=T) -> ρ' T=none)/\∀T∈keys (Zbt ts ls nx).2,nx<=T
 | [],ls,nx,ρ,ob,vs,hm,hf,hl=>⟨ρ,hm,Trn.refl _ _ _ _,hl,λ h=>h,λ _ h _=>h,λ _ h=>by cases h⟩
 | t :: ts,[],nx,ρ,ob,vs,hm,hf,hl=>by
  have e:Zbt (t :: ts) [] nx=([],[]):=by cases t <;> rfl
  rw[e];exact⟨ρ,hm,Trn.refl _ _ _ _,hl,λ h=>h,λ _ h _=>h,λ _ h=>by cases h⟩
 | t :: ts,l :: ls,nx,ρ,ob,vs,hm,hf,hl=>by
  obtain⟨v,vs', rfl,h1,h2⟩:=hl;have other:(Zbt (t :: ts) (l :: ls) nx)=(l :: (Zbt ts ls nx).1,(Zbt ts ls nx).2)->∃ρ', Mem P B ρ' Z (look (pts (Zbt (t :: ts) (l :: ls) nx).2 ob)) w/\Trn ρ Z (look ob) w ρ' Z (look (pts (Zbt (t :: ts) (l :: ls) nx).2 ob)) w/\LRs P B ρ' Z w (Zbt (t :: ts) (l :: ls) nx).1 (v :: vs')/\(lfsOk (l :: ls)=true->lfsOk (Zbt (t :: ts) (l :: ls) nx).1=true)/\(∀T,ρ T=none->(T < nx\/nx+(Zbt (t :: ts) (l :: ls) nx).2.length<=T) -> ρ' T=none)/\∀T∈keys (Zbt (t :: ts) (l :: ls) nx).2,nx<=T:=λ e=>by rw[e]at hf ⊢;obtain⟨ρ', g1,g2,g3,g4,g5,g6⟩:=Zfz ts ls nx ρ ob vs' hm hf h2;exact⟨ρ', g1,g2,⟨v,vs', rfl,h1.fut (g2.fut hm),g3⟩,λ ho=>by simp only[lfsOk,Bool.and_eq_true]at ho ⊢;exact⟨ho.1,g4 ho.2⟩,g5,g6⟩
  by_cases hc:∃e u,t = .sl e u/\l = .nil
  ·
   obtain⟨e,u,rfl,rfl⟩:=hc;have e1:Zbt (.sl e u :: ts) (.nil :: ls) nx=(.own nx :: (Zbt ts ls (nx+1)).1,(nx,.row e true u []) :: (Zbt ts ls (nx+1)).2):=rfl;rw[e1]at hf ⊢;have hn : ρ nx=none:=hf nx (Nat.le_refl _) (by simp);have hv:v = .slice none 0 0:=h1;obtain⟨m1,m2⟩:=Ze6 hm (n:=nx) (o := .row e true u []) (z:=⟨.slice none 0 0,λ _=>False⟩) (c:=[]) (del:=[]) (w' := w) (λ _ h=>by cases h) (λ _ h=>by cases h) (by simp) (λ z0 h=>by rw[hn]at h;cases h) rfl rfl rfl (Nat.le_refl _) (λ h=>absurd h (Zel hm hn))
    (λ k hk _=>rfl) (λ k hk=>hk.elim) ⟨[],World.ownsRow_nil w 0 e u.size,(λ k hk=>by cases hk),λ _ _=>False,(λ j p hp=>by simp at hp),(λ _ _ h=>h.elim),λ _ _ _ _ h=>h.elim⟩
   obtain⟨ρ', g1,g2,g3,g4,g5,g6⟩:=Zfz ts ls (nx+1) _ _ vs' m1 (λ T k1 k2=>by
    have:=hf T (by omega) (by rw[List.length_cons];omega)
    unfold upd;rw[if_neg (by omega)];exact this) (h2.fut (m2.fut hm))
   refine⟨ρ', g1,m2.trans g2,⟨v,vs', rfl,?_,g3⟩,λ ho=>by simp only[lfsOk,Bool.and_eq_true]at ho ⊢;exact⟨rfl,g4 ho.2⟩,λ T k1 k2=>g5 T ?_ ?_,λ T hT => ?_⟩
   ·obtain⟨z', k1,k2⟩:=g2.hdr nx _ (if_pos rfl);exact⟨z', k1,by rw[hv];exact k2.symm,by rw[hv];rfl⟩
   ·unfold upd;rw[List.length_cons]at k2;rw[if_neg (by omega)];exact k1
   ·rw[List.length_cons]at k2;omega
   ·
    rcases List.mem_cons.1 hT with rfl|hT
    ·exact Nat.le_refl _
    ·have:=g6 T hT;omega
  ·
   refine other ?_
   cases t <;> cases l <;> first|rfl|exact absurd ⟨_,_,rfl,rfl⟩ hc
theorem Zc6:∀(ts:List Ty) (ls:List Lf) (nx T:Nat),nx<=T->T < nx+(Zbt ts ls nx).2.length->T∈keys (Zbt ts ls nx).2
 | [],ls,nx,T,h1,h2=>by have e:(Zbt [] ls nx).2=[]:=rfl;rw[e,List.length_nil]at h2;omega
 | t :: ts,[],nx,T,h1,h2=>by
  have e:Zbt (t :: ts) [] nx=([],[]):=by cases t <;> rfl
  rw[e,List.length_nil]at h2;omega
 | t :: ts,l :: ls,nx,T,h1,h2=>by
  by_cases hc:∃e u,t = .sl e u/\l = .nil
  ·
   obtain⟨e,u,rfl,rfl⟩:=hc;have e1:(Zbt (.sl e u :: ts) (.nil :: ls) nx).2=(nx,.row e true u []) :: (Zbt ts ls (nx+1)).2:=rfl;rw[e1]at h2 ⊢;rw[List.length_cons]at h2
   by_cases hT:T=nx
   ·subst hT;exact List.mem_cons_self
   ·exact List.mem_cons_of_mem _ (Zc6 ts ls (nx+1) T (by omega) (by omega))
  ·
   have e1:(Zbt (t :: ts) (l :: ls) nx).2=(Zbt ts ls nx).2:=by cases t <;> cases l <;> first|rfl|exact absurd ⟨_,_,rfl,rfl⟩ hc
   rw[e1]at h2 ⊢;exact Zc6 ts ls nx T h1 h2
theorem Zhi (hm:Mem P B ρ Z (look ob) w) {E:Env} (hE:TtOk P E.tt) {nx:Nat} {t:TypeId} (h:(match lk t E.tt with
  | some i=>chk (Nat.beq i.zero.length i.size && !(Nat.beq i.size 0)) (match Zbt (Zcj i.ty) i.zero (nx+1)with
   | (ls,os)=>ok (.lf (.box nx 0)) (os++[(nx,.box t false ls)]) [])
  | none => .fail:Pg Eff).run ob KK nd=some r):SaysF P B ρ Z ob w KK r nx (Instr.alloc t true (.tuple #[])):=by
 split at h
 ·
  rename_i i hi
  rw[ZaO]at h;obtain⟨hc,h⟩:=h;simp only[Bool.and_eq_true,Bool.not_eq_true']at hc;obtain⟨info,h1,h2,h3,h4⟩:=(hE t i hi).info;obtain⟨z,hz,hzc,_⟩:=h4 (Nat.eq_of_beq_eq_true hc.1) (λ h0=>by rw[h0]at hc;cases hc.2);obtain⟨hl,hok⟩:=ZbW (P:=P) (B:=B) (ρ := ρ) (Z:=Z) (w:=w) hzc;refine⟨_,nd,h,λ hnx=>⟨.pointer (some ⟨w.heap.size,0,none⟩),w.alloc (.cells z.cells.toList.toArray t),?_,?_⟩⟩
  ·simp[Instr.alloc,zeroValue,typeInfo,h1,hz,newVar,newRow]
  ·
   simp only[List.length_append,List.length_singleton]at hnx;obtain⟨ρ', g1,g2,g3,g4,g5,g6⟩:=Zfz (Zcj i.ty) i.zero (nx+1) ρ ob _ hm (λ T k1 k2=>hnx T (by omega) (by omega)) hl;have hn' : ρ' nx=none:=g5 nx (hnx nx (Nat.le_refl _) (by omega)) (.inl (by omega));obtain⟨ρ2,Z2,d1,d2,d3,d4⟩:=Zg6 (t:=t) g1 hn' g3 (g4 hok);have e:pts ((Zbt (Zcj i.ty) i.zero (nx+1)).2++[(nx,.box t false (Zbt (Zcj i.ty) i.zero (nx+1)).1)]) (rms [] ob)=pts [(nx,.box t false (Zbt (Zcj i.ty) i.zero (nx+1)).1)] (rms [] (pts (Zbt (Zcj i.ty) i.zero (nx+1)).2 ob)):=Zl7 _ _ _;refine⟨ρ2,Z2,by rw[e];exact d1,by rw[e];exact g2.trans d2,d3,λ T k1 k2 => ?_⟩;rw[Zbs,List.mem_append,not_or]at k2
   by_cases hr:T < nx+1\/nx+1+(Zbt (Zcj i.ty) i.zero (nx+1)).2.length<=T
   ·exact d4 T (g5 T k1 hr) k2.2
   ·exact absurd (Zc6 (Zcj i.ty) i.zero (nx+1) T (by omega) (by omega)) k2.1
 ·cases h
theorem Znc (g:Eff->Eff):∀(pg:Pg Eff) (nd:List Nat),(pg.mapE g).run ob KK nd=pg.run ob (λ e nd=>KK (g e) nd) nd:=by
 intro pg
 induction pg with
 | fail=>intro nd;rfl
 | ret g=>intro nd;rfl
 | obj T f ih =>
  intro nd;simp only[Pg.mapE,Pg.run]
  cases lk T ob with
  | none=>rfl
  | some o=>exact ih o _
 | test p d x y ihx ihy =>
  intro nd;simp only[Pg.mapE,Pg.run];rw[ihx,ihy]
 | call v f ih =>
  intro nd;simp only[Pg.mapE,Pg.run]
  cases v with
  | none=>rfl
  | some a=>exact ih a nd
theorem ZmO {ty:Ty} {nx:Nat} {e:Eff} {v:Value} (hfr:∀T,nx<=T->T < nx+(nilE ty nx e).add.length -> ρ T=none) (hd:Done P B ρ Z ob w e v w'):Done P B ρ Z ob w (nilE ty nx e) v w' := by
 unfold nilE at hfr ⊢
 split
 ·
  rename_i cells
  obtain⟨ρ', Z', h1,h2,⟨vs,h3,h4⟩,h5⟩:=hd;simp only at hfr;obtain⟨ρ2,g1,g2,g3,_,g5,g6⟩:=Zfz (Zcj ty) cells nx ρ' ob vs h1 (λ T k1 k2=>h5 T (hfr T k1 k2) (λ h=>by cases h)) h4;refine⟨ρ2,Z', g1,h2.trans g2,⟨vs,h3,g3⟩,λ T k1 k2 => ?_⟩;have k3:=h5 T k1 (λ h=>by cases h)
  by_cases hr:T < nx\/nx+(Zbt (Zcj ty) cells nx).2.length<=T
  ·exact g5 T k3 hr
  ·exact absurd (Zc6 (Zcj ty) cells nx T (by omega) (by omega)) k2
 ·exact hd
theorem Zj4 (hm:Mem P B ρ Z (look ob) w) {T nx:Nat} {o0:Ob} {e e' : TypeId} {t:Ty} {xs:List (List t.den)} {hl:List (Nat×Nat)} {j:Int} {v:Value} {z:Rzv} (ho:lk T ob=some o0) (hz : ρ T=some z) (hO:ZiC w e 1 (Rep Z w true (.sl e' t)) z.hdr xs hl (λ n v=>∃zn,ρ n=some zn/\zn.hdr=v/\v.oneCell' = true) z.F) (hx:LR P B ρ Z w (.elt T j 1 0) v) (h0:0<=j) (h1:j < (xs.length:Int)) (hj:j.toNat ∉ keys hl) (hn : ρ nx=none) :
  ∃u g,v = .pointer (some ⟨g,j.toNat,none⟩)/\w.cell? (⟨g,j.toNat,none⟩:Addr)=some u/\Done P B ρ Z ob w ⟨.lf (.own nx),[(nx,.row e' true t (Ty.rd (.sl e' t) xs j)),(T,.hole e (.sl e' t) xs ((j.toNat,nx) :: hl))],[]⟩ u w:=by
 obtain⟨inner,hown,hb,hnd,hps,Fs,hel,hsub,hd⟩:=hO;obtain⟨z', g,n,c,hz', hg', hj0,hjn,rfl⟩:=hx;rw[hz]at hz'
 cases hz'
 have hlen:0 < List.length xs:=by omega
 obtain⟨g', cap,hv,hnc,hmx,hcells⟩:=ZbQ hown hlen Nat.one_pos;rw[hg']at hv
 cases hv
 obtain⟨hdr,hc,hrow,_⟩:=hel j.toNat _ hj (rd_get (t := .sl e' t) h0 h1);have hcell:inner[j.toNat]? = some hdr:=by
  have:=congrArg (λ l=>l[0]?) hc
  simpa [Ty.size,List.getElem?_take,List.getElem?_drop] using this
 have hTn:T≠nx:=λ e=>by rw[e]at hz;rw[hz]at hn;cases hn
 have hnob:lk nx ob=none:=by
  cases hl:lk nx ob with
  | none=>rfl
  | some o=>exact absurd (by rw[hl];rfl) (Zel hm hn)
 let zn:Rzv:=⟨hdr,Fs j.toNat⟩
 let zT:Rzv:=⟨z.hdr,λ k=>z.F k/\¬ Fs j.toNat k⟩
 let ρ' : Rz:=upd (upd ρ nx zn) T zT
 have rT : ρ' T=some zT:=if_pos rfl;have rn : ρ' nx=some zn:=by show(if nx=T then _ else(if nx=nx then _ else _))=_;rw[if_neg (Ne.symm hTn),if_pos rfl]
 have ro:∀U,U≠T->U≠nx -> ρ' U = ρ U:=λ U h1 h2=>by show(if U=T then _ else(if U=nx then _ else _))=_;rw[if_neg h1,if_neg h2]
 have lT:lk T (pts [(nx,Ob.row e' true t (Ty.rd (.sl e' t) xs j)),(T,.hole e (.sl e' t) xs ((j.toNat,nx) :: hl))] (rms [] ob))=some (.hole e (.sl e' t) xs ((j.toNat,nx) :: hl)):=by show lk T (pt T _ (pt nx _ ob))=_;rw[lk_pt,if_pos rfl]
 have ln:lk nx (pts [(nx,Ob.row e' true t (Ty.rd (.sl e' t) xs j)),(T,.hole e (.sl e' t) xs ((j.toNat,nx) :: hl))] (rms [] ob))=some (.row e' true t (Ty.rd (.sl e' t) xs j)):=by show lk nx (pt T _ (pt nx _ ob))=_;rw[lk_pt,if_neg (Ne.symm hTn),lk_pt,if_pos rfl]
 have lo:∀U,U≠T->U≠nx->lk U (pts [(nx,Ob.row e' true t (Ty.rd (.sl e' t) xs j)),(T,.hole e (.sl e' t) xs ((j.toNat,nx) :: hl))] (rms [] ob))=lk U ob:=λ U h1 h2=>by show lk U (pt T _ (pt nx _ ob))=_;rw[lk_pt,if_neg h1,lk_pt,if_neg h2]
 have hhdr:∀U z0,ρ U=some z0->∃z', ρ' U=some z' /\ z'.hdr=z0.hdr:=λ U z0 h=>by
  by_cases hU:U=T
  ·
   subst hU;rw[hz]at h
   cases h
   exact⟨zT,rT,rfl⟩
  ·exact⟨z0,(ro U hU λ e=>by rw[e,hn]at h;cases h).trans h,rfl⟩
 have hf:Fut B ρ Z w ρ' Z w:=⟨λ _ h=>h,λ _ _=>rfl,λ _ _=>rfl,hhdr⟩
 have hTs:(lk T ob).isSome=true:=by rw[ho];rfl
 have hFs:∀k,Fs j.toNat k->z.F k:=λ k hk=>(hsub _ k hj hk).1
 have hin:∀U z0 k,U=T\/U=nx -> ρ' U=some z0->z0.F k->z.F k:=λ U z0 k hU hr hk=>by
  rcases hU with rfl|rfl
  ·rw[rT]at hr;cases hr;exact hk.1
  ·rw[rn]at hr;cases hr;exact hFs k hk
 refine⟨hdr,g,by simp,(hcells _ _ hcell).1,ρ', Z,Zia hm (λ U=>U=T\/U=nx) hf (λ U hU => ?_) (λ U hU => ?_) (λ U z0 hU hs hr=>⟨λ _ _=>rfl,λ k hk => ?_⟩) (λ U o hU ho' => ?_) (λ U z0 k hU hs hr hk => ?_) (Nat.le_refl _) hm.zlt,?_,⟨zn,rn,rfl,owns_one' hrow⟩,λ U k1 k2 => ?_⟩
 ·rw[not_or]at hU;exact .inl (lo U hU.1 hU.2)
 ·rw[not_or]at hU;exact ro U hU.1 hU.2
 ·rw[not_or]at hU;have hs:(lk U _).isSome=true:=hs;rw[lo U hU.1 hU.2]at hs;exact(hm.zsep k ⟨U,z0,hs,hr,hk⟩).1
 ·
  have ho' : lk U _=some o:=ho';rcases hU with rfl|rfl
  ·
   rw[lT]at ho'
   cases ho'
   have hk1:∀i,i ∉ keys ((j.toNat,nx) :: hl)->i≠j.toNat/\i ∉ keys hl:=λ i hi=>⟨λ e=>hi (by rw[e];exact List.mem_cons_self),λ h=>hi (List.mem_cons_of_mem _ h)⟩
   exact⟨zT,rT,inner,hown,λ k hk=>⟨hb k hk,λ hF=>(hsub _ k hj hF).2 hk⟩,List.nodup_cons.2 ⟨hj,hnd⟩,λ i n him=>by
    rcases List.mem_cons.1 him with e|him
    ·cases e;exact⟨hdr,⟨zn,rn,rfl,owns_one' hrow⟩,hc⟩
    ·obtain⟨u,⟨zm,g1,g2,g3⟩,g4⟩:=hps i n him;obtain⟨z', g5,g6⟩:=hhdr n zm g1;exact⟨u,⟨z', g5,g6.trans g2,g3⟩,g4⟩,Fs,λ i p hi hp=>hel i p (hk1 i hi).2 hp,λ i k hi hk=>⟨⟨(hsub i k (hk1 i hi).2 hk).1,hd i _ k (hk1 i hi).1 (hk1 i hi).2 hj hk⟩,(hsub i k (hk1 i hi).2 hk).2⟩,λ a b k hab ha hb' => hd a b k hab (hk1 a ha).2 (hk1 b hb').2⟩
  ·
   rw[ln]at ho'
   cases ho'
   exact⟨zn,rn,hrow⟩
 ·
  have hzF:=hin U z0 k hU hr hk;have hz1:=hm.zsep k ⟨T,z,hTs,hz,hzF⟩;refine⟨hz1.2,⟨hz1.1,hm.bsep k ⟨T,z,hTs,hz,hzF⟩⟩,λ U' z' hne hs' hr' hk' => ?_⟩
  by_cases hU' : U' = T\/U' = nx
  ·
   rcases hU with rfl|rfl <;> rcases hU' with rfl|rfl
   ·exact hne rfl
   ·
    rw[rT]at hr;cases hr
    rw[rn]at hr';cases hr'
    exact hk.2 hk'
   ·
    rw[rn]at hr;cases hr
    rw[rT]at hr';cases hr'
    exact hk'.2 hk
   ·exact hne rfl
  ·rw[not_or]at hU';have hs' : (lk U' _).isSome=true:=hs';rw[lo U' hU'.1 hU'.2]at hs';exact hm.sep U' T z' z k hU'.1 hs' hTs ((ro U' hU'.1 hU'.2).symm.trans hr') hz hk' hzF
 ·
  refine⟨rfl,rfl,rfl,Nat.le_refl _,λ _ _ _=>rfl,λ k hk => ?_,λ _ h => .inl h,λ _ h=>h,hhdr⟩;obtain⟨U,z0,hs,hr,hk⟩:=hk
  by_cases hU:U=T\/U=nx
  ·exact .inl ⟨T,z,hTs,hz,hin U z0 k hU hr hk⟩
  ·rw[not_or]at hU;have hs:(lk U _).isSome=true:=hs;rw[lo U hU.1 hU.2]at hs;exact .inl ⟨U,z0,hs,(ro U hU.1 hU.2).symm.trans hr,hk⟩
 ·simp only[keys,List.mem_cons,not_or]at k2;exact(ro U k2.2.1 k2.1).trans k1
where
 owns_one' {w:World} {e sz:Nat} {α : Type} {R : α -> List Value->(Nat->Prop)->Prop} {hdr:Value} {xs:List α} {F:Nat->Prop} (h:Zch w e sz R hdr xs F):hdr.oneCell' = true:=by obtain⟨inner,h,_⟩:=h;exact Zdt h
theorem ZkI (hm:Mem P B ρ Z (look ob) w) {T nx:Nat} {e e' : TypeId} {t:Ty} {xs:List (List t.den)} {j:Int} {v:Value} (ho:lk T ob=some (.row e true (.sl e' t) xs)) (hx:LR P B ρ Z w (.elt T j 1 0) v) (h0:0<=j) (h1:j < (xs.length:Int)) (hn : ρ nx=none) :
  ∃u g,v = .pointer (some ⟨g,j.toNat,none⟩)/\w.cell? (⟨g,j.toNat,none⟩:Addr)=some u/\Done P B ρ Z ob w ⟨.lf (.own nx),[(nx,.row e' true t (Ty.rd (.sl e' t) xs j)),(T,.hole e (.sl e' t) xs [(j.toNat,nx)])],[]⟩ u w:=by
 obtain⟨z,hz,inner,hown,hb,Fs,hel,hsub,hd⟩:=hm.obj T _ ho;exact Zj4 hm ho hz ⟨inner,hown,hb,List.nodup_nil,λ _ _ h=>(by cases h),Fs,λ i p _=>hel i p,λ i k _=>hsub i k,λ a b k h _ _=>hd a b k h⟩ hx h0 h1 (λ h=>by cases h) hn
theorem holeAt_run {i:Int} (h0:0<=i) {γ : Type} {K' : γ -> List Nat->Option β} {F:Nat->Pg γ} {K:Pg γ}:∀{hl:List (Nat×Nat)},(ZjT i hl F K).run ob K' nd=some r->(∃n,(i.toNat,n)∈hl/\(F n).run ob K' nd=some r)\/(i.toNat ∉ keys hl/\K.run ob K' nd=some r)
 | [],h => .inr ⟨λ h=>(by cases h),h⟩
 | (j,n) :: l,h=>by
  unfold ZjT at h;rcases run_test.1 h with ⟨h1,h⟩|⟨h1,h⟩
  ·exact .inl ⟨n,by rw[h1];exact List.mem_cons_self,h⟩
  ·
   rcases holeAt_run h0 h with ⟨m,h2,h3⟩|⟨h2,h3⟩
   ·exact .inl ⟨m,List.mem_cons_of_mem _ h2,h3⟩
   ·refine .inr ⟨λ hm=>(List.mem_cons.1 hm).elim (λ e=>h1 ?_) h2,h3⟩;have e:i.toNat=j:=e;omega
def PutH (j N:Nat) (hl hl' : List (Nat×Nat)):Prop:=(keys hl).Nodup->(keys hl').Nodup/\(∀i n,(i,n)∈hl' -> (i=j/\n=N)\/(i≠j/\(i,n)∈hl))/\∀i,i ∉ keys hl' -> i ∉ keys hl/\i≠j
theorem ZjW {i:Nat}:∀{l:List (Nat×Nat)},i∈keys l->∃n,(i,n)∈l
 | [],h=>by cases h
 | (j,n) :: l,h=>by
  rcases List.mem_cons.1 h with e|h
  ·exact⟨n,by rw[e];exact List.mem_cons_self⟩
  ·obtain⟨m,hm⟩:=ZjW h;exact⟨m,List.mem_cons_of_mem _ hm⟩
theorem mem_keys' {i n:Nat}:∀{l:List (Nat×Nat)},(i,n)∈l->i∈keys l
 | [],h=>by cases h
 | (j,m) :: l,h=>by
  rcases List.mem_cons.1 h with e|h
  ·cases e;exact List.mem_cons_self
  ·exact List.mem_cons_of_mem _ (mem_keys' h)
theorem ZiU {k N:Nat}:∀{hl:List (Nat×Nat)} {j n:Nat},endAt k hl=some (j,n)->(j,n)∈hl/\PutH j N hl (ZhY k N hl)
 | [],_,_,h=>by cases h
 | (i, m) :: r,j,n,h=>by
  unfold endAt at h;unfold ZhY
  cases hb:Nat.ble r.length k with
  | true =>
   rw[hb]at h
   cases h
   refine⟨List.mem_cons_self,λ hnd => ?_⟩;have hnd' : i ∉ keys r/\(keys r).Nodup:=List.nodup_cons.1 hnd;refine⟨hnd,λ a q ha => ?_,λ a ha=>⟨ha,λ e=>ha (by rw[e];exact List.mem_cons_self)⟩⟩;rcases List.mem_cons.1 ha with e|ha
   ·cases e;exact .inl ⟨rfl,rfl⟩
   ·exact .inr ⟨λ e=>hnd'.1 (e ▸ mem_keys' ha),List.mem_cons_of_mem _ ha⟩
  | false =>
   rw[hb]at h;obtain⟨h1,h2⟩:=ZiU (N:=N) h;refine⟨List.mem_cons_of_mem _ h1,λ hnd => ?_⟩;have hnd' : i ∉ keys r/\(keys r).Nodup:=List.nodup_cons.1 hnd;obtain⟨k1,k2,k3⟩:=h2 hnd'.2;have hij:i≠j:=λ e=>hnd'.1 (e ▸ mem_keys' h1)
   refine⟨List.nodup_cons.2 ⟨λ hi => ?_,k1⟩,λ a q ha => ?_,λ a ha => ?_⟩
   ·
    obtain⟨q,hq⟩:=ZjW hi;rcases k2 _ _ hq with ⟨e,_⟩|⟨_,hq⟩
    ·exact hij e
    ·exact hnd'.1 (mem_keys' hq)
   ·
    rcases List.mem_cons.1 ha with e|ha
    ·cases e;exact .inr ⟨hij,List.mem_cons_self⟩
    ·exact(k2 a q ha).imp id λ⟨g1,g2⟩=>⟨g1,List.mem_cons_of_mem _ g2⟩
   ·
    have ha' : a≠i/\a ∉ keys (ZhY k N r):=⟨λ e=>ha (by rw[e];exact List.mem_cons_self),λ h=>ha (List.mem_cons_of_mem _ h)⟩
    obtain⟨g1,g2⟩:=k3 a ha'.2;exact⟨λ h=>(List.mem_cons.1 h).elim ha'.1 g1,g2⟩
theorem Zh6 {inner:List Value} {j:Nat} {u:Value} (h:(inner.drop (j*1)).take 1=[u]):inner[j]? = some u:=by
 have:=congrArg (λ l=>l[0]?) h
 simpa [List.getElem?_take,List.getElem?_drop] using this
theorem Zho (hm:Mem P B ρ Z (look ob) w) {E:Env} (hE:TtOk P E.tt) {t:TypeId} {k:Nat} {x y:AV} {vx vy:Value} (h:(Zje E t k x y).run ob KK nd=some r) (hx:AR P B ρ Z w x vx) (hy:AR P B ρ Z w y vy) :
  ∃e nd', KK e nd' = some r/\∃w', (Instr.storeAt t vx vy).run P w = .ok () w' /\ Done P B ρ Z ob w e undef w' := by
 unfold Zje at h
 split at h
 ·
  rename_i T j
  split at h
  ·
   rename_i N
   rw[Zbu]at h;obtain⟨o,ho,h⟩:=h
   split at h
   ·
    rename_i e e' t'' xs hl
    split at h
    ·
     rename_i i hi
     rw[ZaO,ZZ,ZZ]at h;obtain⟨hsz,h0,h1,h⟩:=h;have hsz:=Nat.eq_of_beq_eq_true hsz
     split at h
     rotate_left
     ·cases h
     rename_i j' m' hend
     rw[ZZ]at h;obtain⟨hjj,h⟩:=h;obtain⟨_,hput⟩:=ZiU (N:=N) hend;rw[show j' = j.toNat by omega]at hput;obtain⟨z,hz,inner,hown,hb,hnd,hps,Fs,hel,hsub,hdis⟩:=hm.obj T _ ho;obtain⟨p1,p2,p3⟩:=hput hnd;obtain⟨hlc,hok⟩:=Zdc (ls:=[.own N]) rfl hy;obtain⟨u,hu,hLR⟩:=hlc.one_inv;obtain⟨zN,hzN,rfl,hone⟩:=hLR;have hcz:vy.cells.size=i.size:=by rw[hsz,<-Array.length_toList,hu];rfl
     have hrun:∀ad:Addr,(Instr.storeAt t (.pointer (some ad)) vy).run P w=(storeCells ad vy.cells.toList).run P w:=λ ad=>by simp[Instr.storeAt,Instr.sureAddr,storeVar,Zce (hE t i hi),hcz]
     obtain⟨z', g,n,cap0,hz', hg', hj0,hjn,rfl⟩:=hx;rw[hz]at hz'
     cases hz'
     rcases hown.2 with ⟨hv,_⟩|⟨g', cap,cur,hv,hb0,hg,hnc,hcm,hcs,htake⟩
     ·rw[hg']at hv;cases hv
     ·
      rw[hg']at hv
      cases hv
      have hj:j.toNat < xs.length:=by omega
      have hxc:xs.length*1<=cur.size:=by rw[hcs];exact Nat.mul_le_mul_right _ hnc
      have hst:=run_storeCells_at P g (j.toNat*1) e vy.cells.toList 0 cur w hg (by rw[hu,List.length_singleton];omega) (hlc.one hok)
      simp only[Nat.add_zero]at hst;have hFg:z.F g:=hb g (by rw[hg'];rfl);have hTo:Own ρ (look ob) g:=⟨T,z,by rw[show look ob T=_ from ho];rfl,hz,hFg⟩
      have hsame:∀k,k≠g->(w.setRow g (cur.toList.take (j.toNat*1)++vy.cells.toList++cur.toList.drop (j.toNat*1+vy.cells.toList.length)).toArray).heap[k]? = w.heap[k]? := λ k hk=>setRow_other w g k _ hk
      refine⟨_,_,h,w.setRow g (cur.toList.take (j.toNat*1)++vy.cells.toList++cur.toList.drop (j.toNat*1+vy.cells.toList.length)).toArray,(hrun _).trans (by rw[Nat.add_zero];exact hst),ZcV hm ho hz rfl (z' := z) (λ _ h=>by cases h) (by simp) (λ k hk => .inl hk) rfl rfl rfl (by simp) (λ k hk=>hsame k λ e=>hk (e ▸ hFg)) ?_⟩
      rw[Zd9 hz];have hil:inner.length=xs.length*1:=hown.1;have hZs:ZbL Z w (w.setRow g (cur.toList.take (j.toNat*1)++vy.cells.toList++cur.toList.drop (j.toNat*1+vy.cells.toList.length)).toArray):=λ k hk=>hsame k λ e=>(hm.zsep g hTo).1 (e ▸ hk)
      have hin:inner.take (j.toNat*1)++[zN.hdr]++inner.drop (j.toNat*1+[zN.hdr].length)=((cur.toList.take (j.toNat*1)++vy.cells.toList++cur.toList.drop (j.toNat*1+vy.cells.toList.length))).take (xs.length*1):=by
       have htake' : List.take (xs.length*1) cur.toList=inner:=htake;rw[<-htake', hu,List.take_take,Nat.min_eq_left (by omega),List.drop_take];have e1:((cur.toList.take (j.toNat*1)++[zN.hdr])).length=j.toNat*1+1:=by rw[List.length_append,List.length_take,List.length_singleton,Nat.min_eq_left (by rw[Array.length_toList];omega)]
       rw[List.take_append (l₁ := List.take (j.toNat*1) cur.toList++[zN.hdr]),List.take_of_length_le (l:=List.take (j.toNat*1) cur.toList++[zN.hdr]) (by rw[e1];omega),e1,List.length_singleton]
      refine⟨inner.take (j.toNat*1)++[zN.hdr]++inner.drop (j.toNat*1+[zN.hdr].length),⟨?_,.inr ⟨g,cap0,_,hg', hb0,setRow_heap w g cur _ e (0,0) hg,hnc,hcm,?_,?_⟩⟩,hb,p1,λ i n him => ?_,Fs,λ i p hi hp => ?_,λ i k hi hk=>hsub i k (p3 i hi).1 hk,λ a b k hab ha hb' => hdis a b k hab (p3 a ha).1 (p3 b hb').1⟩
      ·show List.length _=xs.length*1;rw[List.length_append,List.length_append,List.length_take,List.length_drop,List.length_singleton,hil,Nat.min_eq_left (by omega)];omega
      ·rw[List.size_toArray,List.length_append,List.length_append,List.length_take,List.length_drop,hu,List.length_singleton,Array.length_toList,Nat.min_eq_left (by omega)];show _=cap0*1;have hcs:cur.size=cap0*1:=hcs;omega
      ·rw[List.toList_toArray];exact hin.symm
      ·
       rcases p2 i n him with ⟨rfl,rfl⟩|⟨hne,him⟩
       ·refine⟨zN.hdr,⟨zN,hzN,rfl,hone⟩,?_⟩;show List.take 1 (List.drop (j.toNat*1) _)=_;rw[ZeO hil rfl hj hj,if_pos rfl]
       ·
        obtain⟨v,hv1,hv2⟩:=hps i n him;have hi:i < xs.length:=by have:=(List.getElem?_eq_some_iff.1 (Zh6 hv2)).1;omega
        refine⟨v,hv1,?_⟩;show List.take 1 (List.drop (i*1) _)=_;rw[ZeO hil rfl hj hi,if_neg hne];exact hv2
      ·have hi' : i < xs.length:=(List.getElem?_eq_some_iff.1 hp).1;show Rep _ _ _ _ _ (List.take 1 (List.drop (i*1) _)) _;rw[ZeO hil rfl hj hi', if_neg (p3 i hi).2];exact Rep.imp (.sl e' t'') (hel i p (p3 i hi).1 hp) (λ _ h=>h) (λ _ h=>h) hZs λ k hk=>hsame k λ e=>(hsub i k (p3 i hi).1 hk).2 (by rw[hg', e];rfl)
    ·cases h
   ·exact ZdZ hm hE h hx hy
  ·exact ZdZ hm hE h hx hy
 ·exact ZdZ hm hE h hx hy
theorem ZdY {E:Env} (hm:Mem P B ρ Z (look ob) w) (hE:TtOk P E.tt) {nx:Nat} {t:TypeId} {kk:Nat} {x:AV} {v:Value} (h:(Zij E nx t kk x).run ob KK nd=some r) (hx:AR P B ρ Z w x v):SaysF P B ρ Z ob w KK r nx (Instr.loadAt t v):=by
 unfold Zij at h
 split at h
 ·
  rename_i T j
  rw[Zbu]at h;obtain⟨o,ho,h⟩:=h
  split at h
  ·
   rename_i e e' t'' xs
   split at h
   ·
    rename_i i hi
    have main:(∀fs,i.kind ≠ .st fs)->(guard (0<=j) (guard (j < (List.length (α := List t''.den) xs:Int)) (ok (.lf (.own nx)) [(nx,.row e' true t'' (Ty.rd (.sl e' t'') xs j)),(T,.hole e (.sl e' t'') xs [(j.toNat,nx)])] [])):Pg Eff).run ob KK (T :: nd)=some r->SaysF P B ρ Z ob w KK r nx (Instr.loadAt t v):=λ hk h=>by rw[ZZ,ZZ]at h;obtain⟨h0,h1,h⟩:=h;refine⟨_,_,h,λ hfr => ?_⟩;obtain⟨u,g,rfl,hc,hd⟩:=ZkI hm ho hx h0 h1 (hfr nx (Nat.le_refl _) (by simp));exact⟨u,w,by simp[Instr.loadAt,Instr.sureAddr,loadVar,Zcb (hE t i hi) w hk,hc],hd⟩
    split at h
    ·cases h
    ·
     rename_i hk
     exact main (λ fs hf=>hk fs hf) h
   ·cases h
  ·
   rename_i e e' t'' xs hl
   split at h
   ·
    rename_i i hi
    have main:(∀fs,i.kind ≠ .st fs)->(guard (0<=j) (guard (j < (List.length (α := List t''.den) xs:Int)) (match endAt kk hl with
      | some (j', n)=>guard (j=(j' : Int)) (ok (.lf (.own n)) [] [])
      | none => .fail)):Pg Eff).run ob KK (T :: nd)=some r->SaysF P B ρ Z ob w KK r nx (Instr.loadAt t v):=λ hk h=>by
     rw[ZZ,ZZ]at h;obtain⟨h0,h1,h⟩:=h;obtain⟨z,hz,hO⟩:=hm.obj T _ ho
     split at h
     ·
      rename_i j' n hend
      rw[ZZ]at h;obtain⟨hjj,h⟩:=h;obtain⟨hjn,_⟩:=ZiU (N:=0) hend;rw[show j' = j.toNat by omega]at hjn;obtain⟨inner,hown,hb,hnd,hps,_⟩:=hO;obtain⟨u,⟨zn,k1,k2,k3⟩,k4⟩:=hps _ _ hjn;obtain⟨z', g,n', c,hz', hg', hj0,hjn', rfl⟩:=hx;rw[hz]at hz'
      cases hz'
      obtain⟨g', cap,hv,hnc,hmx,hcells⟩:=ZbQ hown (by omega) Nat.one_pos;rw[hg']at hv
      cases hv
      have hc:=(hcells _ _ (Zh6 k4)).1;exact(Z7 hm h (v:=u) (by simp[Instr.loadAt,Instr.sureAddr,loadVar,Zcb (hE t i hi) w hk,hc]) ⟨zn,k1,k2.symm,k3⟩).f nx
     ·cases h
    split at h
    ·cases h
    ·
     rename_i hk
     exact main (λ fs hf=>hk fs hf) h
   ·cases h
  ·exact(Zga hm hE h hx).f nx
 ·exact(Zga hm hE h hx).f nx
theorem ZdX {E:Env} (hm:Mem P B ρ Z (look ob) w) (hE:TtOk P E.tt) {nx:Nat} {t:TypeId} {kk:Nat} {x:AV} {v:Value} (h:(Zii E nx t kk x).run ob KK nd=some r) (hx:AR P B ρ Z w x v):SaysF P B ρ Z ob w KK r nx (Instr.loadAt t v):=by
 unfold Zii at h
 split at h
 ·
  rename_i T j
  rw[Zbu]at h;obtain⟨o,ho,h⟩:=h
  split at h
  ·
   rename_i e e' t'' xs
   cases hnf:nf e' with
   | false =>
    rw[hnf]at h;simp only[cond_false]at h;exact ZdY hm hE h hx
   | true =>
    rw[hnf]at h;simp only[cond_true]at h
    split at h
    ·
     rename_i i hi
     have main:(∀fs,i.kind ≠ .st fs)->(guard (0<=j) (guard (j < (List.length (α := List t''.den) xs:Int)) (.test (List.length (α := t''.den) (Ty.rd (.sl e' t'') xs j)=0) inferInstance (ok (.lf .nil) [] []) (ok (.lf (.sl t'' (Ty.rd (.sl e' t'') xs j))) [] []))):Pg Eff).run ob KK (T :: nd)=some r->SaysF P B ρ Z ob w KK r nx (Instr.loadAt t v):=λ hk h=>by
      rw[ZZ,ZZ]at h;obtain⟨h0,h1,h⟩:=h;obtain⟨z,hz,inner,hown,hb,Fs,hel,_,_⟩:=hm.obj T _ ho;obtain⟨z', g,n,c,hz', hg', hj0,hjn,rfl⟩:=hx;rw[hz]at hz'
      cases hz'
      obtain⟨g', cap,hv,hnc,hmx,hcells⟩:=ZbQ hown (by omega) (ZcF (.sl e' t''));rw[hg']at hv
      cases hv
      have hp:=hel j.toNat _ (rd_get (t := .sl e' t'') h0 h1);obtain⟨A,c', hcs,hview,hnil⟩:=hp;have hcell:w.cell? ⟨g,j.toNat*1+0,none⟩=some (.slice A (List.length (α := t''.den) (Ty.rd (.sl e' t'') xs j)) c'):=by
       have h2:inner[j.toNat*1+0]? = some (.slice A (List.length (α := t''.den) (Ty.rd (.sl e' t'') xs j)) c'):=Zcd (n:=j.toNat*1) (m:=1) (i:=0) (by show((inner.drop (j.toNat*Ty.size (.sl e' t''))).take (Ty.size (.sl e' t'')))[0]? = _;rw[hcs];rfl)
       exact(hcells _ _ h2).1
      have hrun:(Instr.loadAt t (.pointer (some ⟨g,j.toNat*1+0,none⟩))).run P w = .ok (.slice A (List.length (α := t''.den) (Ty.rd (.sl e' t'') xs j)) c') w:=by
       have hj:j.toNat*1+0=j.toNat:=by omega
       rw[hj]at hcell ⊢;simp[Instr.loadAt,Instr.sureAddr,loadVar,Zcb (hE t i hi) w hk,hcell]
      rw[run_test]at h;rcases h with ⟨hl,h⟩|⟨hl,h⟩
      ·have hv0:=hnil hnf hl;rw[hv0]at hrun;exact(Z7 hm h hrun rfl).f nx
      ·exact(Z7 hm h hrun ⟨A,c', rfl,hview⟩).f nx
     split at h
     ·cases h
     ·
      rename_i hk
      exact main (λ fs hf=>hk fs hf) h
    ·cases h
  ·exact ZdY hm hE h hx
 ·exact ZdY hm hE h hx
theorem Zik {E:Env} (hm:Mem P B ρ Z (look ob) w) (hE:TtOk P E.tt) {nx:Nat} {t:TypeId} {kk:Nat} {x:AV} {v:Value} (h:(ZlY E nx t kk x).run ob KK nd=some r) (hx:AR P B ρ Z w x v):SaysF P B ρ Z ob w KK r nx (Instr.loadAt t v):=by
 unfold ZlY at h
 split at h
 ·
  rename_i e' t'' xs
  cases hnf:nf e' with
  | false =>
   rw[hnf]at h;simp only[cond_false]at h;exact ZdX hm hE h hx
  | true =>
   rw[hnf]at h;simp only[cond_true]at h
   split at h
   ·
    rename_i i hi
    have main:(∀fs,i.kind ≠ .st fs)->(Pg.test (List.length (α := t''.den) xs=0) inferInstance (ok (.lf .nil) [] []) (ok (.lf (.sl t'' xs)) [] []):Pg Eff).run ob KK nd=some r->SaysF P B ρ Z ob w KK r nx (Instr.loadAt t v):=λ hk h=>by
     obtain⟨ad,cs,rfl,hz,hrep,hcc⟩:=hx;obtain⟨A,c', rfl,hview,hnil⟩:=hrep;have hcell:w.cell? ad=some (.slice A (List.length (α := t''.den) xs) c'):=by have:=hcc 0 _ rfl;rwa[add_zero]at this
     have hrun:(Instr.loadAt t (.pointer (some (ad.add 0)))).run P w = .ok (.slice A (List.length (α := t''.den) xs) c') w:=by rw[add_zero];simp[Instr.loadAt,Instr.sureAddr,loadVar,Zcb (hE t i hi) w hk,hcell]
     rw[run_test]at h;rcases h with ⟨hl,h⟩|⟨hl,h⟩
     ·have hv0:=hnil hnf hl;rw[hv0]at hrun;exact(Z7 hm h hrun rfl).f nx
     ·exact(Z7 hm h hrun ⟨A,c', rfl,hview⟩).f nx
    split at h
    ·cases h
    ·
     rename_i hk
     exact main (λ fs hf=>hk fs hf) h
   ·cases h
 ·exact ZdX hm hE h hx
theorem Zgb {E:Env} (hm:Mem P B ρ Z (look ob) w) {nx:Nat} {f:Operand->Option AV} {a:Act} (hf:∀x av,f x=some av->AR P B ρ Z w av (a.eval x)) {o:Oper} {x:Operand} (h:(pMove E nx o (f x)).run ob KK nd=some r) (he:(execOp a.eval o).run P w = .ok (.value (a.eval x)) w):Zjt P B ρ Z ob w KK r nx o a:=by
 unfold pMove at h
 split at h
 ·
  rename_i hx
  have hv:a.eval x = .slice none 0 0:=hf x _ hx;have hnil:Done P B ρ Z ob w ⟨.lf .nil,[],[]⟩ (a.eval x) w:=ZcD hm (hf x _ hx)
  split at h
  ·
   rename_i d hd
   cases hc:E.nils.contains d with
   | false =>
    rw[hc]at h;exact⟨_,nd,h,λ _=>ZbF he hnil⟩
   | true =>
    rw[hc]at h;simp only[cond_true]at h
    split at h
    ·
     split at h
     ·
      split at h
      ·
       rename_i e _ _ ie _
       refine⟨_,nd,h,λ hfr=>ZbF he ?_⟩;have hn : ρ nx=none:=hfr nx (Nat.le_refl _) (by simp);refine ZjM hm hn rfl rfl rfl (Nat.le_refl _) (λ _ _=>rfl) (λ k hk=>hk.elim) (z:=⟨.slice none 0 0,λ _=>False⟩) ?_ ?_
       ·exact⟨[],World.ownsRow_nil w 0 e ie.ty.size,(λ k hk=>by cases hk),λ _ _=>False,(λ j p hp=>by simp at hp),(λ _ _ h=>h.elim),λ _ _ _ _ h=>h.elim⟩
       ·exact⟨_,if_pos rfl,hv,by rw[hv];rfl⟩
      ·cases h
     ·cases h
    ·cases h
  ·exact⟨_,nd,h,λ _=>ZbF he hnil⟩
 ·
  rename_i n p d hx
  have hv:a.eval x = .bool (bval n p d):=hf x _ hx;refine⟨_,nd,h,λ _=>ZbF he (ZcD hm ?_)⟩
  cases hinted E o.dst with
  | false=>exact hv
  | true =>
   show a.eval x = .bool (bval false (bval n p d=true) _);rw[hv];unfold bval
   cases n <;> by_cases hp:p <;> simp[hp]
 ·
  rename_i v _ _ hx
  exact⟨_,nd,h,λ _=>ZbF he (ZcD hm (hf x _ hx))⟩
 ·cases h
theorem ZkG {E:Env} (hE:EnvOk P E) (hm:Mem P B ρ Z (look ob) w) {nx:Nat} {f:Operand->Option AV} {a:Act} (hf:∀x av,f x=some av->AR P B ρ Z w av (a.eval x)) {o:Oper} (h:(opPg E nx f o).run ob KK nd=some r):Zjt P B ρ Z ob w KK r nx o a:=by
 unfold opPg at h
 cases ho:o.op <;> simp only[ho]at h <;> first|(cases h;done)|skip
 case move x=>exact Zgb hm hf h (by unfold execOp;simp[ho])
 case assign x=>exact Zgb hm hf h (by unfold execOp;simp[ho])
 case pick c x y =>
  obtain⟨e,nd', h1,v,w', h2,h3⟩:=Zjd hm hf h;refine⟨e,nd', h1,λ _=>ZbF (v:=v) (w' := w') ?_ h3⟩;unfold execOp;simp only[ho];have:(do pure (Next.value (if <-asBool (a.eval c)then a.eval x else a.eval y)):Sem Next)=(do pure (.value (<-(do pure (if <-asBool (a.eval c)then a.eval x else a.eval y):Sem Value)))):=by cases a.eval c <;> rfl
  rw[this,Sem.run_bind,h2]
  rfl
 case alloc t =>
  refine Zb6 (s:=Instr.alloc t true (.tuple #[])) ?_ (by unfold execOp;simp only[ho])
  cases hh:hinted E o.dst with
  | false=>rw[hh]at h;exact Zid hm hE.tt h
  | true=>rw[hh]at h;exact Zhi hm hE.tt h
 case box t x =>
  obtain⟨v,hv,h⟩:=Zco h;exact Zb6 (ZkK hm (hf x v hv) h) (by unfold execOp;simp only[ho])
 case build t parts =>
  have hx:execOp a.eval o=(do pure (.value (<-Instr.build t (parts.toList.map λ p=>(p.1,a.eval p.2)).toArray))):=by unfold execOp;simp only[ho];rw[Zf5]
  cases hh:hinted E o.dst with
  | false=>rw[hh]at h;exact Zb6 ((Zfo hm hE.tt hf h).f nx) hx
  | true =>
   rw[hh]at h;simp only[cond_true]at h
   split at h
   ·rw[Znc]at h;obtain⟨e,nd', k1,hg⟩:=Zfo hm hE.tt hf h;refine⟨_,nd', k1,λ hfr=>Zgz hx ?_⟩;obtain⟨v,w', g1,g2⟩:=hg;exact⟨v,w', g1,ZmO hfr g2⟩
   ·cases h
 case buildSlice t n parts =>
  refine Zb6 (Ze8 hm hE.tt hf h) ?_;unfold execOp;simp only[ho];rw[Zf5]
 case load t x =>
  have main:SaysF P B ρ Z ob w KK r nx (Instr.loadAt t (a.eval x)):=by
   cases hh:hinted E o.dst with
   | true =>
    rw[hh]at h;obtain⟨v,hv,h⟩:=Zco h;exact Zik hm hE.tt h (hf x v hv)
   | false =>
    rw[hh]at h;obtain⟨v,hv,h⟩:=Zco h;exact ZdX hm hE.tt h (hf x v hv)
  exact Zb6 main (by unfold execOp;simp only[ho])
 case store t x y =>
  obtain⟨v,u,hv,hu,h⟩:=Zc1 h;obtain⟨e,nd', h1,w', h2,h3⟩:=Zho hm hE.tt h (hf x v hv) (hf y u hu);refine⟨e,nd', h1,λ _ K Q hK => ?_⟩;have hr:(execOp a.eval o).run P w = .ok .skip w' := by unfold execOp;simp[ho,h2]
  unfold Oper.wp;rw[hr];exact hK undef w' h3
 case nilCheck x =>
  obtain⟨v,hv,h⟩:=Zco h;obtain⟨ad,hp,nd', h1⟩:=ZkO hm h (hf x v hv);refine⟨_,nd', h1,λ _=>ZbF (v:=a.eval x) (w' := w) ?_ (ZcD hm (hf x v hv))⟩;unfold execOp;simp only[ho,hp,Sem.run_pure]
 case binOp op t x y t' =>
  obtain⟨v,u,hv,hu,h⟩:=Zc1 h;exact Zb6 ((Zi5 (xo:=x) (yo:=y) (tx:=t) hm hE.tt h (hf x v hv) (hf y u hu)).f nx) (by unfold execOp;simp only[ho])
 case unOp op t x =>
  obtain⟨v,hv,h⟩:=Zco h;exact Zb6 ((Zl1 hm h (hf x v hv)).f nx) (by unfold execOp;simp only[ho])
 case convert src dst x =>
  obtain⟨v,hv,h⟩:=Zco h;exact Zb6 ((Zig hm hE.tt h (hf x v hv)).f nx) (by unfold execOp;simp only[ho])
 case makeFunc fn first caps =>
  cases fn <;> first|(cases h;done)|skip
  rename_i g
  refine Zb6 ((ZlX hE.con hm hf h).f nx) ?_;unfold execOp;simp only[ho];rw[Zf5,Zf5]
 case makeSlice t l c =>
  cases hh:hinted E o.dst with
  | false =>
   rw[hh]at h;obtain⟨v,u,hv,hu,h⟩:=Zc1 h;exact Zb6 (Zjb hm hE.tt h (hf l v hv) (hf c u hu)) (by unfold execOp;simp only[ho])
  | true =>
   rw[hh]at h;obtain⟨v,u,hv,hu,h⟩:=Zc1 h;exact Zb6 (Zil hm hE.tt h (hf l v hv) (hf c u hu)) (by unfold execOp;simp only[ho])
 case slice t x lo hi mx =>
  cases mx <;> first|(cases h;done)|skip
  obtain⟨v,hv,h⟩:=Zco h
  split at h
  ·
   rename_i l hh hl hhh
   cases hh2:hinted E o.dst with
   | true =>
    rw[hh2]at h;exact Zb6 ((ZkP hm hE.tt h (hf x v hv) (Zfu hf hl) (Zfu hf hhh)).f nx) (by unfold execOp;simp only[ho];rfl)
   | false =>
    rw[hh2]at h;exact Zb6 (Zhn hm hE.tt h (hf x v hv) (Zfu hf hl) (Zfu hf hhh)) (by unfold execOp;simp only[ho];rfl)
  ·cases h
 case fieldAddr t x n =>
  obtain⟨v,hv,h⟩:=Zco h;exact Zb6 ((Zfr hm hE.tt h (hf x v hv)).f nx) (by unfold execOp;simp only[ho])
 case field t x n =>
  obtain⟨v,hv,h⟩:=Zco h;exact Zb6 ((Zih hm hE.tt h (hf x v hv)).f nx) (by unfold execOp;simp only[ho])
 case indexAddr t x i =>
  obtain⟨v,u,hv,hu,h⟩:=Zc1 h;exact Zb6 ((Zfs hm hE.tt h (hf x v hv) (hf i u hu)).f nx) (by unfold execOp;simp only[ho])
 case index t x i =>
  obtain⟨v,u,hv,hu,h⟩:=Zc1 h;exact Zb6 ((Zhl hm hE.tt h (hf x v hv) (hf i u hu)).f nx) (by unfold execOp;simp only[ho])
 case extract x n =>
  obtain⟨v,hv,h⟩:=Zco h;exact Zb6 ((Zgq hm h (hf x v hv)).f nx) (by unfold execOp;simp only[ho])
 case call c =>
  split at h
  ·
   rename_i hc
   split at h
   ·
    rename_i x t hxs hts
    split at h
    ·
     rename_i i hi
     obtain⟨v,hv,h⟩:=Zco h;obtain⟨e,nd', k1,u,w', k2,k3⟩:=ZkN (ty:=o.type) hm (hE.tt t i hi) h (hf x v hv);refine⟨e,nd', k1,λ _=>ZbF (v:=u) (w' := w') ?_ k3⟩;have h1:c.args = #[x]:=by rw[<-Array.toArray_toList (xs:=c.args),hxs]
     have h2:c.argTypes = #[t]:=by rw[<-Array.toArray_toList (xs:=c.argTypes),hts]
     unfold execOp;simp only[ho,resolve,hc,h1,h2,invoke,builtin,Sem.run_bind,Sem.run_pure,Result.andThen_ok,List.map_toArray,List.map_cons,List.map_nil,k2]
    ·cases h
   ·cases h
  ·
   rename_i hc
   split at h
   ·
    rename_i x y t t' hxs hts
    have main:SaysF P B ρ Z ob w KK r nx (Builtin.append_ #[t,t'] o.type #[a.eval x,a.eval y]):=by
     cases ht:Nat.beq t t' with
     | true =>
      rw[ht]at h;obtain rfl:=Nat.eq_of_beq_eq_true ht;obtain⟨v,u,hv,hu,h⟩:=Zc1 h;exact Zhj (ty:=o.type) hm hE.tt h (hf x v hv) (hf y u hu)
     | false =>
      rw[ht]at h;obtain⟨v,u,hv,hu,h⟩:=Zc1 h;exact Zi3 (ty:=o.type) hm hE.tt h (hf x v hv) (hf y u hu)
    obtain⟨e,nd', k1,k⟩:=main;refine⟨e,nd', k1,λ hfr => ?_⟩;obtain⟨z,w', k2,k3⟩:=k hfr;refine ZbF (v:=z) (w' := w') ?_ k3;have h1:c.args = #[x,y]:=by rw[<-Array.toArray_toList (xs:=c.args),hxs]
    have h2:c.argTypes = #[t,t']:=by rw[<-Array.toArray_toList (xs:=c.argTypes),hts]
    unfold execOp;simp only[ho,resolve,hc,h1,h2,invoke,builtin,Sem.run_bind,Sem.run_pure,Result.andThen_ok,List.map_toArray,List.map_cons,List.map_nil,k2]
   ·cases h
  ·
   rename_i hc
   split at h
   ·
    rename_i x t hxs hts
    split at h
    ·
     rename_i i hi
     obtain⟨v,hv,h⟩:=Zco h;obtain⟨e,nd', k1,u,w', k2,k3⟩:=ZkL (ty:=o.type) hm (hE.tt t i hi) h (hf x v hv);refine⟨e,nd', k1,λ _=>ZbF (v:=u) (w' := w') ?_ k3⟩;have h1:c.args = #[x]:=by rw[<-Array.toArray_toList (xs:=c.args),hxs]
     have h2:c.argTypes = #[t]:=by rw[<-Array.toArray_toList (xs:=c.argTypes),hts]
     unfold execOp;simp only[ho,resolve,hc,h1,h2,invoke,builtin,Sem.run_bind,Sem.run_pure,Result.andThen_ok,List.map_toArray,List.map_cons,List.map_nil,k2]
    ·cases h
   ·cases h
  ·
   rename_i hc
   split at h
   ·
    rename_i x y hxs
    obtain⟨v,u,hv,hu,h⟩:=Zc1 h;unfold pMax at h
    split at h
    ·
     rename_i k m k' m'
     rw[ZaO]at h;obtain⟨hk,h⟩:=h;obtain rfl:=ZeE hk;have e1:a.eval x = .int k m:=hf x _ hv;have e2:a.eval y = .int k m' := hf y _ hu;refine⟨_,nd,h,λ _=>ZbF (v := .int k (if m' > m then m' else m)) (w' := w) ?_ (ZcD hm rfl)⟩;have h1:c.args = #[x,y]:=by rw[<-Array.toArray_toList (xs:=c.args),hxs]
     unfold execOp;simp[ho,resolve,hc,h1,invoke,builtin,e1,e2,Builtin.max_,Builtin.max2]
    ·cases h
   ·cases h
  ·
   rename_i hc
   split at h
   ·
    rename_i x y hxs
    obtain⟨v,u,hv,hu,h⟩:=Zc1 h;unfold pMin at h
    split at h
    ·
     rename_i k m k' m'
     rw[ZaO]at h;obtain⟨hk,h⟩:=h;obtain rfl:=ZeE hk;have e1:a.eval x = .int k m:=hf x _ hv;have e2:a.eval y = .int k m' := hf y _ hu;refine⟨_,nd,h,λ _=>ZbF (v := .int k (if m' < m then m' else m)) (w' := w) ?_ (ZcD hm rfl)⟩;have h1:c.args = #[x,y]:=by rw[<-Array.toArray_toList (xs:=c.args),hxs]
     unfold execOp;simp[ho,resolve,hc,h1,invoke,builtin,e1,e2,Builtin.min_,Builtin.min2]
    ·cases h
   ·cases h
  ·
   rename_i hc
   split at h
   ·
    rename_i x y t t2 hxs hts
    obtain⟨v,u,hv,hu,h⟩:=Zc1 h;obtain⟨e,nd', k1,v2,w', k2,k3⟩:=Zi8 (ty:=o.type) (t2:=t2) hm hE.tt h (hf x v hv) (hf y u hu);refine⟨e,nd', k1,λ _=>ZbF (v:=v2) (w' := w') ?_ k3⟩;have h1:c.args = #[x,y]:=by rw[<-Array.toArray_toList (xs:=c.args),hxs]
    have h2:c.argTypes = #[t,t2]:=by rw[<-Array.toArray_toList (xs:=c.argTypes),hts]
    unfold execOp;simp only[ho,resolve,hc,h1,h2,invoke,builtin,Sem.run_bind,Sem.run_pure,Result.andThen_ok,List.map_toArray,List.map_cons,List.map_nil,k2]
   ·cases h
  ·
   rename_i hc
   split at h
   ·
    rename_i x t hxs hts
    obtain⟨v,hv,h⟩:=Zco h;obtain⟨e,nd', k1,w', k2,k3⟩:=Zif (ty:=o.type) hm hE.tt h (hf x v hv);refine⟨e,nd', k1,λ _=>ZbF (v := .tuple #[]) (w' := w') ?_ k3⟩;have h1:c.args = #[x]:=by rw[<-Array.toArray_toList (xs:=c.args),hxs]
    have h2:c.argTypes = #[t]:=by rw[<-Array.toArray_toList (xs:=c.argTypes),hts]
    unfold execOp;simp only[ho,resolve,hc,h1,h2,invoke,builtin,Sem.run_bind,Sem.run_pure,Result.andThen_ok,List.map_toArray,List.map_cons,List.map_nil,k2]
   ·cases h
  ·
   rename_i g hc
   split at h
   ·
    rename_i vs hvs
    obtain⟨v,hv,h⟩:=Zco h;exact Zi6 hE.con hm ho hc (hf g v hv) (ZlD hf _ vs hvs) h
   ·cases h
  ·cases h
end
theorem Zmf {γ β : Type} {ob:List (Nat×Ob)} {KK : γ -> List Nat->Option β} {r : β}:∀(pg:Pg γ) (nd:List Nat),pg.run ob KK nd=some r ->
  ∃g nd', KK g nd' = some r/\(∀T∈nd,T∈nd')/\∀{β' : Type} (ob' : List (Nat×Ob)) (KK' : γ -> List Nat->Option β'),(∀T∈nd', lk T ob' = lk T ob)->pg.run ob' KK' nd=KK' g nd' := by
 intro pg
 induction pg with
 | fail=>intro nd h;cases h
 | ret g=>intro nd h;exact⟨g,nd,h,λ _ h=>h,λ _ _ _=>rfl⟩
 | obj T f ih =>
  intro nd h;rw[Zbu]at h;obtain⟨o,ho,h⟩:=h;obtain⟨g,nd', h1,h2,h3⟩:=ih o (T :: nd) h;refine⟨g,nd', h1,λ U hU=>h2 U (List.mem_cons_of_mem _ hU),λ ob' KK' hs => ?_⟩;have hT:=hs T (h2 T List.mem_cons_self);rw[ho]at hT;simp only[Pg.run,hT];exact h3 ob' KK' hs
 | test p d x y ihx ihy =>
  intro nd h;rw[run_test]at h;rcases h with ⟨hp,h⟩|⟨hp,h⟩
  ·obtain⟨g,nd', h1,h2,h3⟩:=ihx nd h;refine⟨g,nd', h1,h2,λ ob' KK' hs => ?_⟩;simp only[Pg.run];rw[if_pos hp];exact h3 ob' KK' hs
  ·obtain⟨g,nd', h1,h2,h3⟩:=ihy nd h;refine⟨g,nd', h1,h2,λ ob' KK' hs => ?_⟩;simp only[Pg.run];rw[if_neg hp];exact h3 ob' KK' hs
 | call v f ih =>
  intro nd h;rw[Zhz]at h;obtain⟨a,ha,h⟩:=h;obtain⟨g,nd', h1,h2,h3⟩:=ih a nd h;refine⟨g,nd', h1,h2,λ ob' KK' hs => ?_⟩;simp only[Pg.run,ha,Option.bind_some];exact h3 ob' KK' hs
section
variable {E:Env} {f f' : Operand->Option AV}
theorem Zev (fs:List (Nat×TypeId)):∀(parts:List (Nat×Operand)) (cells:List Lf),(∀p∈parts,f p.2=f' p.2)->Zej E f fs parts cells=Zej E f' fs parts cells
 | [],_,_=>rfl
 | (j,x) :: r,cells,h=>by
  have hx:f x=f' x:=h (j,x) List.mem_cons_self;have ih:=λ cells=>Zev fs r cells λ p hp=>h p (List.mem_cons_of_mem _ hp)
  simp only[Zej,hx,ih]
theorem ZfQ {m:Bool} {t:Ty}:∀(parts:List (Nat×Operand)) (n:Nat) (K:List t.den->List Nat->Pg Eff),(∀p∈parts,f p.2=f' p.2)->elems f m t n parts K=elems f' m t n parts K
 | [],_,_,_=>rfl
 | (j,x) :: r,n,K,h=>by
  have hx:f x=f' x:=h (j,x) List.mem_cons_self;have ih:=λ n (K:List t.den->List Nat->Pg Eff)=>ZfQ (m:=m) (t:=t) r n K λ p hp=>h p (List.mem_cons_of_mem _ hp)
  simp only[elems,hx,ih]
theorem Zfg:∀(xs:List Operand),(∀x∈xs,f x=f' x)->ZfO f xs=ZfO f' xs
 | [],_=>rfl
 | x :: r,h=>by unfold ZfO;rw[h x List.mem_cons_self,Zfg r λ y hy=>h y (List.mem_cons_of_mem _ hy)]
theorem Zh0:∀(xs:List Operand),(∀x∈xs,f x=f' x)->evs f xs=evs f' xs
 | [],_=>rfl
 | x :: r,h=>by unfold evs;rw[h x List.mem_cons_self,Zh0 r λ y hy=>h y (List.mem_cons_of_mem _ hy)]
theorem ZkF {nx:Nat} {o:Oper} (h:∀x∈o.op.operands,f x=f' x):opPg E nx f o=opPg E nx f' o:=by
 unfold opPg
 cases ho:o.op <;> simp only[ho,Op.operands]at h ⊢
 case move x=>rw[h x (by simp)]
 case assign x=>rw[h x (by simp)]
 case pick c a b=>unfold pPick;rw[h c (by simp),h a (by simp),h b (by simp)]
 case box t x=>unfold on1;rw[h x (by simp)]
 case build t parts =>
  unfold Zie;have hb:=λ fs cells=>Zev (E:=E) (f:=f) (f' := f') fs parts.toList cells λ p hp=>h p.2 (by simp;exact⟨p.1,by simpa using hp⟩)
  simp only[hb]
 case buildSlice t n parts =>
  unfold Zdu
  split
  ·
   split
   ·
    split
    ·rw[ZfQ _ _ _ λ p hp=>h p.2 (by simp;exact⟨p.1,by simpa using hp⟩)]
    ·rfl
   ·rfl
  ·rfl
 case load t x=>unfold on1;rw[h x (by simp)]
 case store t x y=>unfold on2;rw[h x (by simp),h y (by simp)]
 case nilCheck x=>unfold on1;rw[h x (by simp)]
 case binOp op t x y t' => unfold on2;rw[h x (by simp),h y (by simp)]
 case unOp op t x=>unfold on1;rw[h x (by simp)]
 case convert s d x=>unfold on1;rw[h x (by simp)]
 case makeFunc fn first caps =>
  cases fn <;> try rfl
  show pFn E f _ first.toList caps.toList=pFn E f' _ first.toList caps.toList
  have hc:=Zfg caps.toList λ x hx=>h x (by simp;exact .inr (by simpa using hx))
  unfold pFn
  split
  ·
   rename_i x e1 e2
   unfold on1;rw[h x (by simp;exact .inl (by rw[<-Array.mem_toList_iff,e1];simp))]
  ·unfold pFunc;rw[hc]
 case makeSlice t l c=>unfold on2;rw[h l (by simp),h c (by simp)]
 case slice t x lo hi mx =>
  cases mx <;> try rfl
  have e1:evo f lo=evo f' lo:=by
   cases lo with
   | none=>rfl
   | some y =>
    have hy:f y=f' y:=h y (by simp);simp only[evo,hy]
  have e2:evo f hi=evo f' hi:=by
   cases hi with
   | none=>rfl
   | some y =>
    have hy:f y=f' y:=h y (by simp);simp only[evo,hy]
  have e3:f x=f' x:=h x (by simp);show on1 f x (λ v=>match evo f lo,evo f hi with
   | some l,some h=>bif hinted E o.dst then pPre E t l h v else Zgc E nx t l h v
   | _,_ => .fail)=on1 f' x (λ v=>match evo f' lo,evo f' hi with
   | some l,some h=>bif hinted E o.dst then pPre E t l h v else Zgc E nx t l h v
   | _,_ => .fail)
  unfold on1;rw[e1,e2,e3]
 case fieldAddr t x n=>unfold on1;rw[h x (by simp)]
 case field t x n=>unfold on1;rw[h x (by simp)]
 case indexAddr t x i=>unfold on2;rw[h x (by simp),h i (by simp)]
 case index t x i=>unfold on2;rw[h x (by simp),h i (by simp)]
 case extract x n=>unfold on1;rw[h x (by simp)]
 case call c =>
  have hargs:∀x∈c.args.toList,f x=f' x:=λ x hx=>h x (by unfold Call.operands;simp;exact .inr (by simpa using hx))
  split
  ·
   split
   ·
    rename_i x t hx ht
    split
    ·unfold on1;rw[hargs x (by rw[hx];exact List.mem_cons_self)]
    ·rfl
   ·rfl
  ·
   split
   ·
    rename_i x y t t' hx ht
    unfold on2;rw[hargs x (by rw[hx];simp),hargs y (by rw[hx];simp)]
   ·rfl
  ·
   split
   ·
    rename_i x t hx ht
    split
    ·unfold on1;rw[hargs x (by rw[hx];exact List.mem_cons_self)]
    ·rfl
   ·rfl
  ·
   split
   ·
    rename_i x y hx
    unfold on2;rw[hargs x (by rw[hx];simp),hargs y (by rw[hx];simp)]
   ·rfl
  ·
   split
   ·
    rename_i x y hx
    unfold on2;rw[hargs x (by rw[hx];simp),hargs y (by rw[hx];simp)]
   ·rfl
  ·
   split
   ·
    rename_i x y t t' hx ht
    unfold on2;rw[hargs x (by rw[hx];simp),hargs y (by rw[hx];simp)]
   ·rfl
  ·
   split
   ·
    rename_i x t hx ht
    unfold on1;rw[hargs x (by rw[hx];exact List.mem_cons_self)]
   ·rfl
  ·
   rename_i g hg
   rw[Zh0 _ hargs]
   split
   ·unfold on1;rw[h g (by unfold Call.operands;rw[hg];simp)]
   ·rfl
  ·rfl
end
theorem Zh9 {α : Type} (T:Nat):∀(a b:List (Nat × α)),lk T (a++b)=match lk T a with
  | some o=>some o
  | none=>lk T b
 | [],b=>rfl
 | (n,o) :: r,b=>by
  by_cases h:T=n
  ·subst h;simp[lk]
  ·simp[lk,ZbM h,Zh9 T r b]
section
variable {P:Program} {B Z Z' : Nat->Prop} {ρ : Rz} {w:World} {L:List (Nat×Ob)}
theorem Zch.view {e:TypeId} {t:Ty} {m:Bool} {hdr:Value} {xs:List t.den} {F:Nat->Prop} (h:Zch w e t.size (Rep Z w m t) hdr xs F) :
  ∃A c,hdr = .slice A (List.length xs) c/\Zdk (λ k=>Z k\/F k) w t.size (λ p c=>Rep (λ k=>Z k\/F k) w false t p c λ _=>False) A c xs:=by
 obtain⟨inner,ho,hb,Fs,hr,hsub,hd⟩:=h;rcases Nat.eq_zero_or_pos (List.length xs)with h0|h0
 ·
  rcases ho.2 with ⟨rfl,_⟩|⟨g,cap,cur,rfl,_,_,hnc,hcm,_⟩
  ·exact⟨none,0,by rw[h0],by rw[h0];exact Nat.zero_le _,by rw[h0];exact Nat.zero_le _,λ hl=>by omega⟩
  ·exact⟨some ⟨g,0,none⟩,cap,rfl,hnc,by simp only[maxLen]at hcm;omega,λ hl=>by omega⟩
 ·
  obtain⟨g,cap,rfl,hnc,hm,hc⟩:=ZbQ ho h0 (ZcF t);refine⟨some ⟨g,0,none⟩,cap,rfl,hnc,hm,λ _=>⟨⟨g,0,none⟩,rfl,.inr (hb g rfl),λ j p hp=>⟨(inner.drop (j*t.size)).take t.size,Rep.len t (hr j p hp),?_,λ i u hu => ?_⟩⟩⟩
  ·exact Rep.imp t (Rep.view t (λ _=>False) (hr j p hp)) (λ k hk=>hk.imp id λ h=>(hsub j k h).1) (λ _ h=>h) (λ _ _=>rfl) (λ _ _=>rfl)
  ·rw[ZbJ,Nat.zero_add];exact(hc _ u (Zcd hu)).1
theorem fut_z (hz:∀k,Z k->Z' k):Fut B ρ Z w ρ Z' w:=⟨hz,λ _ _=>rfl,λ _ _=>rfl,λ T z h=>⟨z,h,rfl⟩⟩
theorem ZfU (hm:Mem P B ρ Z (look L) w) (hz:∀k,Z k->Z' k) {add ob:List (Nat×Ob)} (hL:∀T,lk T (add++ob)=lk T L) {l l' : Lf} {Ts:List Nat} {v:Value} (h:frzLf add ob l=some (l', Ts)) (hl:LR P B ρ Z w l v) (hT:∀k,Of ρ Ts k->Z' k):LR P B ρ Z' w l' v:=by
 have hpl:∀{l:Lf},LR P B ρ Z w l v->LR P B ρ Z' w l v:=λ h=>h.fut (fut_z hz)
 cases l with
 | own T =>
  unfold frzLf at h;simp only[hL]at h
  split at h
  ·
   rename_i e m t xs ho
   cases h
   obtain⟨z,h1,rfl,h3⟩:=hl;obtain⟨z', h4,h5⟩:=hm.obj T _ ho;obtain rfl:z' = z:=Option.some.inj (h4.symm.trans h1);obtain⟨A,c,h6,h7⟩:=Zch.view h5;have hz' : ∀k,Z k\/z'.F k->Z' k:=λ k hk=>hk.elim (hz k) λ h=>hT k ⟨T,z', List.mem_singleton.2 rfl,h1,h⟩
   exact⟨A,c,h6,h7.imp hz' (λ _ _=>rfl) λ p cs hp=>Rep.imp t hp hz' (λ _ h=>h) (λ _ _=>rfl) (λ _ _=>rfl)⟩
  ·cases h
 | _=>cases h;exact hpl hl
theorem ZfT {add ob:List (Nat×Ob)} (hL:∀T,lk T (add++ob)=lk T L) {l l' : Lf} {Ts:List Nat} (h:frzLf add ob l=some (l', Ts)):Alive L Ts:=by
 cases l with
 | own T =>
  unfold frzLf at h;simp only[hL]at h
  split at h
  ·
   rename_i e m t xs ho
   cases h
   intro U hU;rw[List.mem_singleton.1 hU,ho];rfl
  ·cases h
 | _=>cases h;exact λ U hU=>by cases hU
theorem Zj3 {a b:List Nat} {k:Nat}:Of ρ (a++b) k↔Of ρ a k\/Of ρ b k:=by
 constructor
 ·
  rintro⟨T,z,h1,h2,h3⟩;rcases List.mem_append.1 h1 with h|h
  ·exact .inl ⟨T,z,h,h2,h3⟩
  ·exact .inr ⟨T,z,h,h2,h3⟩
 ·
  rintro(⟨T,z,h1,h2,h3⟩|⟨T,z,h1,h2,h3⟩)
  ·exact⟨T,z,List.mem_append_left _ h1,h2,h3⟩
  ·exact⟨T,z,List.mem_append_right _ h1,h2,h3⟩
theorem ZhJ {a b:List Nat} (ha:Alive L a) (hb:Alive L b):Alive L (a++b):=λ T hT=>(List.mem_append.1 hT).elim (ha T) (hb T)
theorem Zc3 (hm:Mem P B ρ Z (look L) w) (hz:∀k,Z k->Z' k) {add ob:List (Nat×Ob)} (hL:∀T,lk T (add++ob)=lk T L):∀{ls ls' : List Lf} {Ts:List Nat} {vs:List Value},ZdE add ob ls=some (ls', Ts)->LRs P B ρ Z w ls vs->(∀k,Of ρ Ts k->Z' k)->LRs P B ρ Z' w ls' vs
 | [],_,_,_,h,hl,_=>by cases h;exact hl
 | l :: r,ls', Ts,vs,h,hl,hT=>by
  unfold ZdE at h
  split at h
  ·
   rename_i l' a r' b h1 h2
   cases h
   obtain⟨v,vs', rfl,h3,h4⟩:=hl;exact⟨v,vs', rfl,ZfU hm hz hL h1 h3 λ k hk=>hT k (Zj3.2 (.inl hk)),Zc3 hm hz hL h2 h4 λ k hk=>hT k (Zj3.2 (.inr hk))⟩
  ·cases h
theorem Zc2 {add ob:List (Nat×Ob)} (hL:∀T,lk T (add++ob)=lk T L):∀{ls ls' : List Lf} {Ts:List Nat},ZdE add ob ls=some (ls', Ts)->Alive L Ts
 | [],_,_,h=>by cases h;exact λ U hU=>by cases hU
 | l :: r,ls', Ts,h=>by
  unfold ZdE at h
  split at h
  ·
   rename_i l' a r' b h1 h2
   cases h
   exact ZhJ (ZfT hL h1) (Zc2 hL h2)
  ·cases h
theorem Zfm (hm:Mem P B ρ Z (look L) w) (hz:∀k,Z k->Z' k) {add ob:List (Nat×Ob)} (hL:∀T,lk T (add++ob)=lk T L):∀{ls ls' : List (Bool×List Lf)} {Ts:List Nat} {vs:List Value},Zez add ob ls=some (ls', Ts)->TupR P B ρ Z w ls vs->(∀k,Of ρ Ts k->Z' k)->TupR P B ρ Z' w ls' vs
 | [],_,_,_,h,hl,_=>by cases h;exact hl
 | (b,l) :: r,ls', Ts,vs,h,hl,hT=>by
  unfold Zez at h
  split at h
  ·
   rename_i l' a r' c h1 h2
   cases h
   obtain⟨v,vs', cs,rfl,h3,h4,h5⟩:=hl;exact⟨v,vs', cs,rfl,Zc3 hm hz hL h1 h3 (λ k hk=>hT k (Zj3.2 (.inl hk))),h4,Zfm hm hz hL h2 h5 λ k hk=>hT k (Zj3.2 (.inr hk))⟩
  ·cases h
theorem Zfl {add ob:List (Nat×Ob)} (hL:∀T,lk T (add++ob)=lk T L):∀{ls ls' : List (Bool×List Lf)} {Ts:List Nat},Zez add ob ls=some (ls', Ts)->Alive L Ts
 | [],_,_,h=>by cases h;exact λ U hU=>by cases hU
 | (b,l) :: r,ls', Ts,h=>by
  unfold Zez at h
  split at h
  ·
   rename_i l' a r' c h1 h2
   cases h
   exact ZhJ (Zc2 hL h1) (Zfl hL h2)
  ·cases h
theorem ZiW (hm:Mem P B ρ Z (look L) w) (hz:∀k,Z k->Z' k) {add ob:List (Nat×Ob)} (hL:∀T,lk T (add++ob)=lk T L) {x y:AV} {Ts:List Nat} {v:Value} (h:frzAV add ob x=some (y,Ts)) (hx:AR P B ρ Z w x v) (hT:∀k,Of ρ Ts k->Z' k):AR P B ρ Z' w y v:=by
 cases x with
 | lf l =>
  unfold frzAV at h;simp only at h
  split at h
  ·
   rename_i l' a h1
   cases h
   exact ZfU (l:=l) hm hz hL h1 hx hT
  ·cases h
 | agg l =>
  unfold frzAV at h;simp only at h
  split at h
  ·
   rename_i l' a h1
   cases h
   obtain⟨vs,h2,h3⟩:=hx;exact⟨vs,h2,Zc3 hm hz hL h1 h3 hT⟩
  ·cases h
 | tup l =>
  unfold frzAV at h;simp only at h
  split at h
  ·
   rename_i l' a h1
   cases h
   obtain⟨vs,h2,h3⟩:=hx;exact⟨vs,h2,Zfm hm hz hL h1 h3 hT⟩
  ·cases h
theorem ZiV {add ob:List (Nat×Ob)} (hL:∀T,lk T (add++ob)=lk T L) {x y:AV} {Ts:List Nat} (h:frzAV add ob x=some (y,Ts)):Alive L Ts:=by
 cases x <;> unfold frzAV at h <;> simp only at h <;> split at h <;> first|cases h|skip
 ·rename_i h1;exact ZfT hL h1
 ·rename_i h1;exact Zc2 hL h1
 ·rename_i h1;exact Zfl hL h1
theorem ZlN {Ts:List Nat} {L' : List (Nat×Ob)} (hm:Mem P B ρ Z (look L) w) (ha:Alive L Ts) (hL:∀T,lk T L' = if T∈Ts then none else lk T L):Mem P B ρ (λ k=>Z k\/Of ρ Ts k) (look L') w where
 obj:=λ T o ho=>by
  have ho:lk T L' = some o:=ho;rw[hL]at ho
  split at ho
  ·cases ho
  ·obtain⟨z,h1,h2⟩:=hm.obj T o ho;exact⟨z,h1,h2.fut (fut_z λ _ h => .inl h) λ _ _=>rfl⟩
 sep:=λ T T' z z' k hne h1 h2 h3 h4=>by
  have h1:(lk T L').isSome=true:=h1;have h2:(lk T' L').isSome=true:=h2;rw[hL]at h1 h2
  split at h1
  ·cases h1
  ·
   split at h2
   ·cases h2
   ·exact hm.sep T T' z z' k hne h1 h2 h3 h4
 zsep:=λ k ⟨T,z,h1,h2,h3⟩=>by
  have h1:(lk T L').isSome=true:=h1;rw[hL]at h1
  split at h1
  ·cases h1
  ·
   rename_i hn
   have:=hm.zsep k ⟨T,z,h1,h2,h3⟩;refine⟨λ h=>h.elim this.1 ?_,this.2⟩;rintro⟨T', z', h4,h5,h6⟩;exact hm.sep T T' z z' k (λ e=>hn (e ▸ h4)) h1 (ha T' h4) h2 h5 h3 h6
 zlt:=λ k hk=>hk.elim (hm.zlt k) λ h=>(hm.zsep k (h.own ha)).2
 bsep:=λ k ⟨T,z,h1,h2,h3⟩=>by
  have h1:(lk T L').isSome=true:=h1;rw[hL]at h1
  split at h1
  ·cases h1
  ·exact hm.bsep k ⟨T,z,h1,h2,h3⟩
 blt:=hm.blt
theorem Zo7 {L0 L' : List (Nat×Ob)} {U:Nat} {e:TypeId} {f:Bool} {ls ls' : List Lf} {Ts:List Nat} (h1:Mem P B ρ Z (look L0) w) (hU:lk U L0=some (.box e f ls)) (hf:ZdE [] L0 ls=some (ls', Ts)) (hok:lfsOk ls' = true) (hUT:U ∉ Ts)
  (hL' : ∀T,lk T L' = if T=U then some (.box e f ls')else if T∈Ts then none else lk T L0) :
  ∃ρ2 Z2,Mem P B ρ2 Z2 (look L') w/\Trn ρ Z (look L0) w ρ2 Z2 (look L') w/\∀T,ρ T=none -> ρ2 T=none:=by
 have hL:∀T,lk T (([]:List (Nat×Ob))++L0)=lk T L0:=λ _=>rfl
 have ha:=Zc2 hL hf;have m1:=ZlN (L' := rms Ts L0) h1 ha (λ T=>Zca T Ts L0);have hs:∀T,(lk T L').isSome=true->(lk T (rms Ts L0)).isSome=true:=λ T hT=>by
  rw[hL']at hT;rw[Zca]
  by_cases q:T=U
  ·subst q;rw[if_neg hUT,hU];rfl
  ·rw[if_neg q]at hT;exact hT
 have hown:∀k,Own ρ (look L') k->Own ρ (look (rms Ts L0)) k:=λ k ⟨T,z,k1,k2,k3⟩=>⟨T,z,hs T k1,k2,k3⟩
 have hown0:∀k,Own ρ (look L') k->Own ρ (look L0) k:=λ k hk=>by
  obtain⟨T,z,k1,k2,k3⟩:=hown k hk;have k1:(lk T (rms Ts L0)).isSome=true:=k1;rw[Zca]at k1
  split at k1
  ·cases k1
  ·exact⟨T,z,k1,k2,k3⟩
 refine⟨ρ,λ k=>Z k\/Of ρ Ts k,⟨λ T o ho => ?_,λ T T' z z' k hne k1 k2 k3 k4=>m1.sep T T' z z' k hne (hs T k1) (hs T' k2) k3 k4,λ k hk=>m1.zsep k (hown k hk),m1.zlt,λ k hk=>m1.bsep k (hown k hk),m1.blt⟩,⟨rfl,rfl,rfl,Nat.le_refl _,λ _ _ _=>rfl,λ k hk => .inl (hown0 k hk),λ k hk => ?_,λ k hk => .inl hk,λ _ z hz=>⟨z,hz,rfl⟩⟩,λ _ hT=>hT⟩
 ·
  have ho:lk T L' = some o:=ho;rw[hL']at ho
  split at ho
  ·
   rename_i q
   subst q
   cases ho
   obtain⟨z,z1,g,vs,z2,z3,z4,_,z6,z7⟩:=h1.obj T _ hU;exact⟨z,z1,g,vs,z2,z3,Zc3 h1 (λ _ h => .inl h) hL hf z4 (λ k hk => .inr hk),hok,z6,z7⟩
  ·refine m1.obj T o ?_;show lk T (rms Ts L0)=some o;rw[Zca];exact ho
 ·
  rcases hk with hk|hk
  ·exact .inl hk
  ·exact .inr (.inl (hk.own ha))
theorem ZdW:∀(c:List Nat) {a:List (Nat×Ob)},nodup (keys a)=true->nodup (keys (rms c a))=true
 | [],_,h=>h
 | n :: r,a,h=>ZdW r (nodup_rm n h)
where
 keys_rm (n T:Nat):∀{a:List (Nat×Ob)},T∈keys (rm n a)->T∈keys a:=λ {a} h=>by
  rw[ZbA]at h ⊢;rw[lk_rm]at h
  split at h
  ·cases h
  ·exact h
 nodup_rm (n:Nat):∀{a:List (Nat×Ob)},nodup (keys a)=true->nodup (keys (rm n a))=true
  | [],h=>h
  | (m,b) :: r,h=>by
   simp only[keys,nodup,Bool.and_eq_true,Bool.not_eq_true', List.contains_eq_mem,decide_eq_false_iff_not]at h;unfold rm
   cases Nat.beq n m with
   | true=>exact nodup_rm n h.2
   | false =>
    simp only[cond_false,keys,nodup,Bool.and_eq_true,Bool.not_eq_true', List.contains_eq_mem,decide_eq_false_iff_not];exact⟨λ hh=>h.1 (keys_rm n m hh),nodup_rm n h.2⟩
theorem Zh5 {add ob ob' : List (Nat×Ob)} {l l' : Lf} {Ts:List Nat} (h:frzLf add ob l=some (l', Ts)) (hs:∀T∈Ts,lk T (add++ob')=lk T (add++ob)):frzLf add ob' l=some (l', Ts):=by
 cases l with
 | own T =>
  unfold frzLf at h ⊢;simp only at h ⊢
  split at h
  ·
   rename_i ho
   cases h
   rw[hs T List.mem_cons_self,ho]
  ·cases h
 | _=>exact h
theorem Ze3 {add ob ob' : List (Nat×Ob)}:∀{l l' : List Lf} {Ts:List Nat},ZdE add ob l=some (l', Ts)->(∀T∈Ts,lk T (add++ob')=lk T (add++ob))->ZdE add ob' l=some (l', Ts)
 | [],_,_,h,_=>h
 | l :: r,_,_,h,hs=>by
  unfold ZdE at h ⊢
  split at h
  ·
   rename_i h1 h2
   cases h
   rw[Zh5 h1 λ T hT=>hs T (List.mem_append_left _ hT),Ze3 h2 λ T hT=>hs T (List.mem_append_right _ hT)]
  ·cases h
theorem ZgC {add ob ob' : List (Nat×Ob)}:∀{l l' : List (Bool×List Lf)} {Ts:List Nat},Zez add ob l=some (l', Ts)->(∀T∈Ts,lk T (add++ob')=lk T (add++ob))->Zez add ob' l=some (l', Ts)
 | [],_,_,h,_=>h
 | (b,l) :: r,_,_,h,hs=>by
  unfold Zez at h ⊢
  split at h
  ·
   rename_i h1 h2
   cases h
   rw[Ze3 h1 λ T hT=>hs T (List.mem_append_left _ hT),ZgC h2 λ T hT=>hs T (List.mem_append_right _ hT)]
  ·cases h
theorem ZlG {add ob ob' : List (Nat×Ob)} {l l' : AV} {Ts:List Nat} (h:frzAV add ob l=some (l', Ts)) (hs:∀T∈Ts,lk T (add++ob')=lk T (add++ob)):frzAV add ob' l=some (l', Ts):=by
 cases l <;> unfold frzAV at h ⊢ <;> simp only at h ⊢ <;> split at h <;> first|cases h|skip
 ·rename_i h1;rw[Zh5 h1 hs]
 ·rename_i h1;rw[Ze3 h1 hs]
 ·rename_i h1;rw[ZgC h1 hs]
theorem ZnA {L0 L' : List (Nat×Ob)} {T:Nat} {et e1:TypeId} {t:Ty} {xs:List (List t.den)} (h1:Mem P B ρ Z (look L0) w) (hT0:lk T L0=some (.row et true (.sl e1 t) xs))
  (hL' : ∀U,lk U L' = if U=T then some (.row et false (.sl e1 t) xs)else lk U L0) :
  ∃ρ2 Z2,Mem P B ρ2 Z2 (look L') w/\Trn ρ Z (look L0) w ρ2 Z2 (look L') w/\∀U,ρ U=none -> ρ2 U=none:=by
 obtain⟨z,hz1,hz2⟩:=h1.obj T _ hT0;have hz2:Zch w et (Ty.sl e1 t).size (Rep Z w true (.sl e1 t)) z.hdr xs z.F:=hz2;obtain⟨inner,ho,hb,Fs,hr,hsub,hdis⟩:=hz2;have hTs:(lk T L0).isSome=true:=by rw[hT0];rfl
 let ρ2:Rz:=λ U=>if U=T then some ⟨z.hdr,λ k=>z.hdr.ownBlock=some k⟩else ρ U
 let Z2:Nat->Prop:=λ k=>Z k\/(z.F k/\z.hdr.ownBlock≠some k)
 have hρT : ρ2 T=some ⟨z.hdr,λ k=>z.hdr.ownBlock=some k⟩:=if_pos rfl;have hρU:∀U,U≠T -> ρ2 U = ρ U:=λ U hU=>if_neg hU
 have hhdr:∀U u,ρ U=some u->∃u', ρ2 U=some u' /\ u'.hdr=u.hdr:=λ U u hu=>by
  by_cases hU:U=T
  ·
   subst hU;rw[hz1]at hu;cases hu
   exact⟨_,hρT,rfl⟩
  ·exact⟨u,by rw[hρU U hU];exact hu,rfl⟩
 have hfut:Fut B ρ Z w ρ2 Z2 w:=⟨λ k hk => .inl hk,λ _ _=>rfl,λ _ _=>rfl,hhdr⟩
 have hown:∀k,Own ρ2 (look L') k->Own ρ (look L0) k/\(z.F k->z.hdr.ownBlock=some k):=by
  rintro k ⟨U,u,k1,k2,k3⟩;have k1:(lk U L').isSome=true:=k1
  by_cases hU:U=T
  ·
   subst hU;rw[hρT]at k2;cases k2
   exact⟨⟨U,z,hTs,hz1,hb k k3⟩,λ _=>k3⟩
  ·rw[hL', if_neg hU]at k1;rw[hρU U hU]at k2;exact⟨⟨U,u,k1,k2,k3⟩,λ hk=>absurd hk (h1.sep U T u z k hU k1 hTs k2 hz1 k3)⟩
 have hsome:∀U,(look L' U).isSome=true->(look L0 U).isSome=true:=λ U hU=>by
  have hU:(lk U L').isSome=true:=hU;rw[hL']at hU
  split at hU
  ·rename_i q;subst q;exact hTs
  ·exact hU
 have hF:∀U u u', ρ U=some u' -> ρ2 U=some u->∀k,u.F k->u'.F k:=λ U u u' hu' hu k hk=>by
  by_cases hU:U=T
  ·
   subst hU;rw[hz1]at hu';cases hu'
   rw[hρT]at hu;cases hu
   exact hb k hk
  ·
   rw[hρU U hU,hu']at hu
   cases hu;exact hk
 have hback:∀U u,ρ2 U=some u->∃u', ρ U=some u' := λ U u hu=>by
  by_cases hU:U=T
  ·subst hU;exact⟨z,hz1⟩
  ·exact⟨u,by rw[<-hρU U hU];exact hu⟩
 refine⟨ρ2,Z2,?_,⟨rfl,rfl,rfl,Nat.le_refl _,λ _ _ _=>rfl,λ k hk => .inl (hown k hk).1,λ k hk => ?_,λ k hk => .inl hk,hhdr⟩,λ U hU => ?_⟩
 ·
  refine⟨λ U o ho' => ?_,λ U U' u u' k hne k1 k2 k3 k4 k5 => ?_,λ k hk => ?_,λ k hk => ?_,λ k hk=>h1.bsep k (hown k hk).1,h1.blt⟩
  ·
   have ho' : lk U L' = some o:=ho';rw[hL']at ho'
   by_cases hU:U=T
   ·subst hU;rw[if_pos rfl]at ho';obtain rfl:=Option.some.inj ho';refine⟨_,hρT,inner,ho,λ _ h=>h,λ _ _=>False,λ j p hp => ?_,λ _ _ h=>h.elim,λ _ _ _ _ h=>h.elim⟩;exact Rep.imp (.sl e1 t) (Rep.view (.sl e1 t) (λ _=>False) (hr j p hp)) (λ k hk=>hk.imp id λ h=>hsub j k h) (λ _ h=>h) (λ _ _=>rfl) (λ _ _=>rfl)
   ·rw[if_neg hU]at ho';obtain⟨u,u1,u2⟩:=h1.obj U o ho';exact⟨u,by rw[hρU U hU];exact u1,u2.fut hfut λ _ _=>rfl⟩
  ·obtain⟨a,ha⟩:=hback U u k3;obtain⟨a', ha'⟩:=hback U' u' k4;exact λ hk=>h1.sep U U' a a' k hne (hsome U k1) (hsome U' k2) ha ha' (hF U u a ha k3 k k5) (hF U' u' a' ha' k4 k hk)
  ·obtain⟨k1,k2⟩:=hown k hk;have:=h1.zsep k k1;exact⟨λ hh=>hh.elim this.1 λ hh=>hh.2 (k2 hh.1),this.2⟩
  ·exact hk.elim (h1.zlt k) λ hh=>(h1.zsep k ⟨T,z,hTs,hz1,hh.1⟩).2
 ·
  rcases hk with hk|hk
  ·exact .inl hk
  ·exact .inr (.inl ⟨T,z,hTs,hz1,hk.1⟩)
 ·
  have hne:U≠T:=λ q=>by subst q;rw[hU]at hz1;cases hz1
  rw[hρU U hne];exact hU
theorem Zn2 {ob Lo:List (Nat×Ob)} {e e' : Eff} {nd:List Nat} {v:Value} {w' : World} (hn:nodup (keys e.add)=true) (h:shE Lo e=some (e', nd)) (hs:∀T∈nd,lk T ob=lk T Lo) (hd:Done P B ρ Z ob w e v w') :
  ∃ρ' Z', Mem P B ρ' Z' (look (pts e'.add (rms e'.del ob))) w' /\ Trn ρ Z (look ob) w ρ' Z' (look (pts e'.add (rms e'.del ob))) w' /\ AR P B ρ' Z' w' e'.v v/\∀T,ρ T=none->T ∉ keys e.add -> ρ' T=none:=by
 unfold shE at h
 split at h
 rotate_left
 ·cases h
 rename_i T hv
 split at h
 rotate_left
 ·cases h
 rename_i et e1 t xs hlk
 obtain⟨rfl,rfl⟩:=Prod.mk.inj (Option.some.inj h);obtain⟨ρ', Z1,h1,h2,h3,h4⟩:=hd;have hT0:lk T (pts e.add (rms e.del ob))=some (.row et true (.sl e1 t) xs):=by rw[Zh9,Zca]at hlk;rw[ZdS T _ _ hn,Zca,hs T (List.mem_singleton.2 rfl)];exact hlk
 have hn' : nodup (keys ((T,Ob.row et false (.sl e1 t) xs) :: rms [T] e.add))=true:=by
  simp only[keys,nodup,Bool.and_eq_true,Bool.not_eq_true', List.contains_eq_mem,decide_eq_false_iff_not];refine⟨λ hh => ?_,ZdW [T] hn⟩;rw[ZbA,Zca,if_pos (List.mem_singleton.2 rfl)]at hh
  cases hh
 have hL' : ∀U,lk U (pts ((T,Ob.row et false (.sl e1 t) xs) :: rms [T] e.add) (rms (e.del++[T]) ob))=if U=T then some (.row et false (.sl e1 t) xs)else lk U (pts e.add (rms e.del ob)):=λ U=>by
  rw[ZdS U _ _ hn', ZdS U _ _ hn]
  by_cases hU:U=T
  ·subst hU;simp[lk]
  ·
   rw[if_neg hU];have q:lk U ((T,Ob.row et false (.sl e1 t) xs) :: rms [T] e.add)=lk U (rms [T] e.add):=by simp[lk,ZbM hU]
   rw[q,Zca,Zca,Zca];simp[hU]
 obtain⟨ρ2,Z2,g1,g2,g3⟩:=ZnA h1 hT0 hL';exact⟨ρ2,Z2,g1,h2.trans g2,h3.fut (g2.fut h1),λ U hU hUa=>g3 U (h4 U hU hUa)⟩
theorem ZmN {E:Env} {ob Lo:List (Nat×Ob)} {dst:Option Tmp} {e e' : Eff} {nd:List Nat} {v:Value} {w' : World} (hn:nodup (keys e.add)=true) (h:frzE E Lo dst e=some (e', nd)) (hs:∀T∈nd,lk T ob=lk T Lo) (hd:Done P B ρ Z ob w e v w') :
  ∃ρ' Z', Mem P B ρ' Z' (look (pts e'.add (rms e'.del ob))) w' /\ Trn ρ Z (look ob) w ρ' Z' (look (pts e'.add (rms e'.del ob))) w' /\ AR P B ρ' Z' w' e'.v v/\∀T,ρ T=none->T ∉ keys e.add -> ρ' T=none:=by
 unfold frzE at h
 split at h
 ·cases h;exact hd
 ·
  cases hc:E.frz.contains _ with
  | false=>rw[hc]at h;cases h;exact hd
  | true =>
   rw[hc]at h;simp only[cond_true]at h
   cases hc2:E.rows.contains _ with
   | true=>rw[hc2]at h;exact Zn2 hn h hs hd
   | false =>
   rw[hc2]at h;simp only[cond_false]at h
   split at h
   ·
    rename_i v' Ts hf
    obtain⟨rfl,rfl⟩:=Prod.mk.inj (Option.some.inj h);obtain⟨ρ', Z1,h1,h2,h3,h4⟩:=hd;have hf' : frzAV e.add (rms e.del ob) e.v=some (v', Ts):=ZlG hf λ T hT=>by rw[Zh9,Zh9,Zca,Zca,hs T hT]
    have hL:∀T,lk T (e.add++rms e.del ob)=lk T (pts e.add (rms e.del ob)):=λ T=>by
     rw[Zh9,ZdS T _ _ hn]
     cases lk T e.add <;> rfl
    have ha:=ZiV hL hf';have hL' : ∀T,lk T (pts (rms Ts e.add) (rms (e.del++Ts) ob))=if T∈Ts then none else lk T (pts e.add (rms e.del ob)):=λ T=>by
     rw[ZdS T _ _ (ZdW Ts hn),ZdS T _ _ hn,Zca,Zca,Zca]
     by_cases hT:T∈Ts
     ·simp[hT]
     ·simp[hT]
    have hO:∀k,Own ρ' (look (pts (rms Ts e.add) (rms (e.del++Ts) ob))) k->Own ρ' (look (pts e.add (rms e.del ob))) k:=by
     rintro k ⟨T,z,k1,k2,k3⟩;have k1:(lk T (pts (rms Ts e.add) (rms (e.del++Ts) ob))).isSome=true:=k1;rw[hL']at k1
     split at k1
     ·cases k1
     ·exact⟨T,z,k1,k2,k3⟩
    refine⟨ρ', _,ZlN h1 ha hL', ⟨h2.os,h2.tape,h2.output,h2.size,h2.old,λ k hk=>h2.own k (hO k hk),λ k hk => ?_,λ k hk => .inl (h2.zm k hk),h2.hdr⟩,ZiW h1 (λ _ h => .inl h) hL hf' h3 λ k hk => .inr hk,h4⟩;rcases hk with hk|hk
    ·exact h2.zn k hk
    ·exact(h2.own k (hk.own ha)).elim (λ h => .inr (.inl h)) λ h => .inr (.inr h)
   ·cases h
end
structure Stp where
 dst:Option Tmp
 v:AV
 add:List (Nat×Ob)
 del:List Nat
 need:List Nat
 lo:Nat
 hi:Nat
def Stp.tch (s:Stp):List Nat:=keys s.add++s.del
def Stp.fr (s:Stp) (f:List (Nat×AV)):List (Nat×AV):=match s.dst with
 | some d=>pt d s.v f
 | none=>f
def Stp.st (s:Stp) (σ : St):St:=⟨s.fr σ.fr,pts s.add (rms s.del σ.ob),s.hi⟩
def Zdj (P:Program) (B:Nat->Prop) (ρ : Rz) (Z:Nat->Prop) (w:World) (ts:List Tmp) (fr:List (Nat×AV)) (a:Act):Prop :=
 ∀t∈ts,∀av,lk t fr=some av->AR P B ρ Z w av (a.eval (.tmp t))
def After (P:Program) (B:Nat->Prop) (ρ : Rz) (Z:Nat->Prop) (w:World) (L:List (Nat×Ob)) (s:Stp) (v:Value) (w' : World):Prop :=
 ∃ρ' Z', Mem P B ρ' Z' (look (pts s.add (rms s.del L))) w' /\ Trn ρ Z (look L) w ρ' Z' (look (pts s.add (rms s.del L))) w' /\ AR P B ρ' Z' w' s.v v/\∀T,ρ T=none->¬ (s.lo<=T/\T < s.hi) -> ρ' T=none
structure Runs (P:Program) (B:Nat->Prop) (n:Nat) (all:Array Oper) (o:Oper) (σ : St) (s:Stp):Prop where
 nd:nodup (keys s.add)=true
 dst:s.dst=o.dst
 lo:s.lo = σ.nx
 le:s.lo<=s.hi
 room:∀d,o.dst=some d->d < n
 run:∀(ρ : Rz) (Z:Nat->Prop) (w:World) (a:Act) (L:List (Nat×Ob)),Mem P B ρ Z (look L) w->(∀T∈s.need++s.tch,lk T L=lk T σ.ob)->Zdj P B ρ Z w (o.looksAt all) σ.fr a ->
  (∀T,s.lo<=T->T < s.hi -> ρ T=none)->∀(K:Act->World->Prop) (Q:Exit->Act->World->Prop),(∀v w', After P B ρ Z w L s v w' -> K (a.put o.dst v) w') ->
  if Region.wanted o (yielded all a.tmps)=true then o.wp P a w K Q else K (a.put o.dst undef) w
def DecOk (dec:List (Nat×Bool)) (fr:List (Nat×AV)):Prop:=∀g b,lk g dec=some b->∃n p d,lk g fr=some (.lf (.cnd n p d))/\bval n p d=b
section
variable {P:Program} {B Z Z' : Nat->Prop} {ρ : Rz} {w:World} {E:Env}
theorem Zm4 {nx:Nat} {dec:List (Nat×Bool)} {fr:List (Nat×AV)} (hd:DecOk dec fr) {o:Oper} {β : Type} {ob:List (Nat×Ob)} {KK:Eff->List Nat->Option β} {nd:List Nat} :
  (opD E nx dec (ev fr) o).run ob KK nd=(opPg E nx (ev fr) o).run ob KK nd:=by
 unfold opD
 split
 ·
  rename_i t x y ho
  split
  ·
   rename_i b hb
   obtain⟨n,p,d,h1,h2⟩:=hd t b hb;unfold opPg;rw[ho];have h3:ev fr (.tmp t)=some (.lf (.cnd n p d)):=h1;simp only[pPick,h3,Pg.run];subst h2;unfold bval
   by_cases hp:p
   ·rw[if_pos hp,decide_eq_true hp];cases n <;> rfl
   ·rw[if_neg hp,decide_eq_false hp];cases n <;> rfl
  ·rfl
 ·rfl
theorem Zm3 {all:Array Oper} {o:Oper} {t:Tmp} (h:Operand.tmp t∈o.op.operands):t∈o.looksAt all:=by unfold Oper.looksAt;refine List.mem_append_left _ ?_;rw[List.mem_filterMap];exact⟨_,by simpa using h,rfl⟩
theorem ev_AR {all:Array Oper} {o:Oper} {fr:List (Nat×AV)} {a:Act} (hl:Zdj P B ρ Z w (o.looksAt all) fr a) {x:Operand} (hx:x∈o.op.operands) {av:AV} (h:ev fr x=some av):AR P B ρ Z w av (a.eval x):=by
 cases x with
 | tmp t=>exact hl t (Zm3 hx) av h
 | const v=>exact Zgt h
 | global g=>cases h
 | func f=>cases h;exact⟨[],rfl,rfl⟩
structure Goes (P:Program) (B:Nat->Prop) (n:Nat) (all:Array Oper) (o:Oper) (σ : St) (s:Stp):Prop where
 nd:nodup (keys s.add)=true
 dst:s.dst=o.dst
 lo:s.lo = σ.nx
 le:s.lo<=s.hi
 room:∀d,o.dst=some d->d < n
 run:∀(ρ : Rz) (Z:Nat->Prop) (w:World) (a:Act) (L:List (Nat×Ob)),Mem P B ρ Z (look L) w->(∀T∈s.need++s.tch,lk T L=lk T σ.ob)->Zdj P B ρ Z w (o.looksAt all) σ.fr a ->
  (∀T,s.lo<=T->T < s.hi -> ρ T=none)->Exec P o a w (After P B ρ Z w L s)
theorem ZlP {ob:List (Nat×Ob)} {dst:Option Tmp} {e e' : Eff} {nd:List Nat} (hn:nodup (keys e.add)=true) (h:frzE E ob dst e=some (e', nd)):nodup (keys e'.add)=true/\∀T∈keys e.add,T∈keys e'.add\/T∈nd:=by
 unfold frzE at h
 split at h
 ·cases h;exact⟨hn,λ T hT => .inl hT⟩
 ·
  cases hc:E.frz.contains _ with
  | false=>rw[hc]at h;cases h;exact⟨hn,λ T hT => .inl hT⟩
  | true =>
   rw[hc]at h;simp only[cond_true]at h
   cases hc2:E.rows.contains _ with
   | true =>
    rw[hc2]at h;simp only[cond_true]at h;unfold shE at h
    split at h
    rotate_left
    ·cases h
    rename_i T hv
    split at h
    rotate_left
    ·cases h
    obtain⟨rfl,rfl⟩:=Prod.mk.inj (Option.some.inj h);refine⟨?_,λ U hU => ?_⟩
    ·
     simp only[keys,nodup,Bool.and_eq_true,Bool.not_eq_true', List.contains_eq_mem,decide_eq_false_iff_not];refine⟨λ hh => ?_,ZdW [T] hn⟩;rw[ZbA,Zca,if_pos (List.mem_singleton.2 rfl)]at hh
     cases hh
    ·
     by_cases q:U=T
     ·exact .inr (List.mem_singleton.2 q)
     ·refine .inl (List.mem_cons_of_mem _ ?_);rw[ZbA]at hU ⊢;rw[Zca,if_neg (by simpa using q)];exact hU
   | false =>
   rw[hc2]at h;simp only[cond_false]at h
   split at h
   ·
    rename_i v' Ts hf
    obtain⟨rfl,rfl⟩:=Prod.mk.inj (Option.some.inj h);refine⟨ZdW Ts hn,λ T hT => ?_⟩
    by_cases hTs:T∈Ts
    ·exact .inr hTs
    ·refine .inl ?_;rw[ZbA]at hT ⊢;rw[Zca,if_neg hTs];exact hT
   ·cases h
theorem ZkD (hE:EnvOk P E) {n:Nat} (hn:E.n=n) {all:Array Oper} {σ : St} {dec:List (Nat×Bool)} (hd:DecOk dec σ.fr) {o:Oper} {β : Type} {k:St->Trc->Option β} {r : β} (h:goOp E σ dec o k=some r) :
  ∃s,k (s.st σ) (s.need,s.tch)=some r/\Goes P B n all o σ s:=by
 classical
 unfold goOp at h;obtain⟨e,nd,h1,_,h3⟩:=Zmf _ _ h
 split at h1
 ·
  rename_i e' nd' hf
  cases hc:newOk σ e (nd++nd') e.add.length && dstOk E o.dst with
  | false=>rw[hc]at h1;cases h1
  | true =>
   rw[hc]at h1;simp only[cond_true]at h1;rw[Bool.and_eq_true]at hc;obtain⟨hc,hdst⟩:=hc;unfold newOk at hc;rw[Bool.and_eq_true,List.all_eq_true]at hc;obtain⟨hnd,hfr⟩:=hc;obtain⟨k1,k2⟩:=ZlP hnd hf;refine⟨⟨o.dst,e'.v,e'.add,e'.del,nd++nd', σ.nx,σ.nx+e.add.length⟩,h1,k1,rfl,rfl,Nat.le_add_right _ _,λ d hd' => ?_,λ ρ Z w a L hm hL hl hfree => ?_⟩
   ·rw[hd']at hdst;rw[<-hn];exact Nat.blt_eq.mp hdst
   ·
    simp only[Stp.tch]at hL hfree;have hL1:∀T∈nd,lk T L=lk T σ.ob:=λ T hT=>hL T (by simp[hT])
    have hrun:=h3 L (λ e nd=>some (e,nd)) hL1;rw[Zm4 hd,ZkF (f' := λ x=>if x∈o.op.operands then ev σ.fr x else none) λ x hx=>by simp[hx]]at hrun;obtain⟨e1,nd1,h4,h5⟩:=ZkG (KK:=λ e nd=>some (e,nd)) hE hm (f:=λ x=>if x∈o.op.operands then ev σ.fr x else none) (a:=a) (λ x av hx=>by
     by_cases hxo:x∈o.op.operands
     ·rw[if_pos hxo]at hx;exact ev_AR hl hxo hx
     ·rw[if_neg hxo]at hx;cases hx) hrun
    obtain⟨rfl,rfl⟩:=Prod.mk.inj (Option.some.inj h4);intro K Q hK;refine h5 (λ T h6 h7=>hfree T h6 h7) K Q λ v w' hdone=>hK v w' ?_
    obtain⟨ρ', Z', g1,g2,g3,g4⟩:=ZmN hnd hf (λ T hT=>hL T (by simp[hT])) hdone;refine⟨ρ', Z', g1,g2,g3,λ T g5 g6=>g4 T g5 λ g7 => ?_⟩;have:=hfr T g7;simp only[Bool.or_eq_true,Bool.and_eq_true,List.contains_eq_mem,decide_eq_true_eq,Nat.ble_eq,Nat.blt_eq]at this;rcases this with ⟨g8,g9⟩|g8
    ·
     rw[<-hL T (by simp only[List.mem_append]at g8 ⊢;exact .inl g8)]at g9
     cases hT:lk T L with
     | none=>rw[hT]at g9;cases g9
     | some o' =>
      obtain⟨z,hz,_⟩:=hm.obj T o' hT;rw[g5]at hz;cases hz
    ·exact g6 g8
 ·cases h1
theorem Zf3 {all:Array Oper} {o:Oper} {j:Nat} {want:Bool} (hg:o.guard=some (j,want)) {g:Tmp} (h:gtmp all.toList j=some g):g∈o.looksAt all:=by
 unfold Oper.looksAt;refine List.mem_append_right _ ?_;rw[hg];unfold gtmp at h;rw[Array.getElem?_toList]at h
 cases ho:all[j]? with
 | none=>rw[ho]at h;cases h
 | some o' => rw[ho]at h;simp[ho];exact h
def Zo9:Value->Option Bool
 | .bool b=>some b
 | _=>none
theorem ZgT {all:Array Oper} {a:Act} {j:Nat} {g:Tmp} (h:gtmp all.toList j=some g) {v:Value} (hv:a.eval (.tmp g)=v):yielded all a.tmps j=Zo9 v:=by
 unfold gtmp at h;rw[Array.getElem?_toList]at h
 cases ho:all[j]? with
 | none=>rw[ho]at h;cases h
 | some o' =>
  rw[ho]at h;have h:o'.dst=some g:=h;unfold yielded;rw[ho];simp only[Option.bind_some,h];subst hv;simp only[Act.eval,Array.getD_eq_getD_getElem?]
  cases hg:a.tmps[g]? with
  | none=>rfl
  | some v' => cases v' <;> rfl
theorem Zmg {n:Nat} {all:Array Oper} {σ : St} {o:Oper} (hroom:∀d,o.dst=some d->d < n) (hw:∀(ρ : Rz) (Z:Nat->Prop) (w:World) (a:Act),Zdj P B ρ Z w (o.looksAt all) σ.fr a->Region.wanted o (yielded all a.tmps)=false) :
  Runs P B n all o σ ⟨o.dst,.lf .undef,[],[],[],σ.nx,σ.nx⟩:=by
 refine⟨rfl,rfl,rfl,Nat.le_refl _,hroom,λ ρ Z w a L hm hL hl hfree K Q hK => ?_⟩;rw[hw ρ Z w a hl];exact hK undef w ⟨ρ,Z,hm,Trn.refl _ _ _ _,rfl,λ _ h _=>h⟩
theorem ZoB {n:Nat} {all:Array Oper} {σ : St} {o:Oper} {s:Stp} (h:Goes P B n all o σ s) (hw:∀(ρ : Rz) (Z:Nat->Prop) (w:World) (a:Act),Zdj P B ρ Z w (o.looksAt all) σ.fr a->Region.wanted o (yielded all a.tmps)=true) :
  Runs P B n all o σ s:=by
 refine⟨h.nd,h.dst,h.lo,h.le,h.room,λ ρ Z w a L hm hL hl hfree K Q hK => ?_⟩;rw[hw ρ Z w a hl,if_pos rfl];exact h.run ρ Z w a L hm hL hl hfree K Q hK
theorem ZoA {n:Nat} (hn:E.n=n) {dst:Option Tmp} (h:dstOk E dst=true):∀d,dst=some d->d < n:=λ d hd=>by rw[hd]at h;rw[<-hn];exact Nat.blt_eq.mp h
def Chain (P:Program) (B:Nat->Prop) (n:Nat) (all:Array Oper):List Oper->St->List Stp->St->Prop
 | [],σ,[],σ' => σ' = σ
 | o :: r,σ,s :: q,σ' => Runs P B n all o σ s/\Chain P B n all r (s.st σ) q σ'
 | _,_,_,_=>False
theorem ZjK {dec:List (Nat×Bool)} {fr:List (Nat×AV)} (h:DecOk dec fr) {s:Stp} {dst:Option Tmp} (hd:s.dst=dst):DecOk (rmD dst dec) (s.fr fr):=by
 subst hd;unfold rmD Stp.fr
 cases hs:s.dst with
 | none=>exact h
 | some d =>
  intro g b hg;simp only[lk_rm]at hg
  split at hg
  ·cases hg
  ·
   rename_i hne
   obtain⟨n,p,dd,h1,h2⟩:=h g b hg;exact⟨n,p,dd,by simp only[lk_pt,if_neg hne];exact h1,h2⟩
theorem Zgv {dec:List (Nat×Bool)} {fr:List (Nat×AV)} (h:DecOk dec fr) {g:Nat} {n:Bool} {p:Prop} {d:Decidable p} {b:Bool} (hg:lk g fr=some (.lf (.cnd n p d))) (hb:bval n p d=b):DecOk ((g,b) :: dec) fr:=by
 intro g' b' h'
 by_cases he:g' = g
 ·subst he;simp[lk]at h';exact⟨n,p,d,hg,hb.trans h'⟩
 ·simp[lk,ZbM he]at h';exact h g' b' h'
theorem Ziy {all:Array Oper} {o:Oper} {j:Nat} {want:Bool} (hg:o.guard=some (j,want)) {g:Tmp} (ht:gtmp all.toList j=some g) {fr:List (Nat×AV)} {n:Bool} {p:Prop} {d:Decidable p} (hf:lk g fr=some (.lf (.cnd n p d))) {a:Act} (hl:Zdj P B ρ Z w (o.looksAt all) fr a) :
  Region.wanted o (yielded all a.tmps)=(bval n p d == want):=by
 have h1:a.eval (.tmp g) = .bool (bval n p d):=hl g (Zf3 hg ht) _ hf;unfold Region.wanted;rw[hg];simp only[ZgT ht h1]
 cases bval n p d <;> cases want <;> rfl
theorem Ziz {all:Array Oper} {o:Oper} {j:Nat} {want:Bool} (hg:o.guard=some (j,want)) {g:Tmp} (ht:gtmp all.toList j=some g) {fr:List (Nat×AV)} (hf:lk g fr=some (.lf .undef)) {a:Act} (hl:Zdj P B ρ Z w (o.looksAt all) fr a) :
  Region.wanted o (yielded all a.tmps)=false:=by
 have h1:a.eval (.tmp g)=undef:=hl g (Zf3 hg ht) _ hf;unfold Region.wanted;rw[hg];simp only[ZgT ht h1]
 cases want <;> rfl
theorem ZdP (hE:EnvOk P E) {n:Nat} (hn:E.n=n) {all:Array Oper} {β : Type} {K:St->List Trc->Option β} {r : β}:∀(ops:List Oper) (σ : St) (dec:List (Nat×Bool)) (tr:List Trc),DecOk dec σ.fr->Zb8 E all.toList K ops σ dec tr=some r ->
  ∃ss σ', K σ' (tr.reverse++ss.map λ s=>(s.need,s.tch))=some r/\Chain P B n all ops σ ss σ'
 | [],σ,dec,tr,hd,h=>⟨[],σ,by simpa [Zb8] using h,rfl⟩
 | o :: q,σ,dec,tr,hd,h=>by
  have go:∀(dec:List (Nat×Bool)),DecOk dec σ.fr->(∀(ρ : Rz) (Z:Nat->Prop) (w:World) (a:Act),Zdj P B ρ Z w (o.looksAt all) σ.fr a->Region.wanted o (yielded all a.tmps)=true) ->
    goOp E σ dec o (λ s t=>Zb8 E all.toList K q s (rmD o.dst dec) (t :: tr))=some r->∃ss σ', K σ' (tr.reverse++ss.map λ s=>(s.need,s.tch))=some r/\Chain P B n all (o :: q) σ ss σ' := λ dec hd hw h=>by
   obtain⟨s,h1,h2⟩:=ZkD (B:=B) (all:=all) hE hn hd h;obtain⟨ss,σ', h3,h4⟩:=ZdP hE hn q _ _ _ (ZjK hd h2.dst) h1;exact⟨s :: ss,σ', by simpa using h3,ZoB h2 hw,h4⟩
  have sk:∀(dec:List (Nat×Bool)),DecOk dec σ.fr->(∀(ρ : Rz) (Z:Nat->Prop) (w:World) (a:Act),Zdj P B ρ Z w (o.looksAt all) σ.fr a->Region.wanted o (yielded all a.tmps)=false) ->
    skOp E o (Zb8 E all.toList K q (σ.skip o.dst) (rmD o.dst dec) (([],[]) :: tr))=some r->∃ss σ', K σ' (tr.reverse++ss.map λ s=>(s.need,s.tch))=some r/\Chain P B n all (o :: q) σ ss σ' := λ dec hd hw h=>by
   unfold skOp at h
   cases hdst:dstOk E o.dst with
   | false=>rw[hdst]at h;cases h
   | true =>
    rw[hdst]at h;simp only[cond_true]at h;have hs:(⟨o.dst,.lf .undef,[],[],[],σ.nx,σ.nx⟩:Stp).st σ = σ.skip o.dst:=rfl;rw[<-hs]at h;obtain⟨ss,σ', h3,h4⟩:=ZdP hE hn q _ _ _ (ZjK (s:=⟨o.dst,.lf .undef,[],[],[],σ.nx,σ.nx⟩) hd rfl) h;exact⟨_ :: ss,σ', by simpa [Stp.tch,keys] using h3,Zmg (ZoA hn hdst) hw,h4⟩
  unfold Zb8 at h
  cases hg:o.guard with
  | none =>
   simp only[hg]at h;exact go dec hd (λ ρ Z w a hl=>by unfold Region.wanted;rw[hg]) h
  | some jw =>
   obtain⟨j,want⟩:=jw;simp only[hg]at h
   cases ht:gtmp all.toList j with
   | none=>rw[ht]at h;cases h
   | some g =>
    simp only[ht]at h;have two:∀(dec:List (Nat×Bool)),DecOk dec σ.fr->∀n' p d,lk g σ.fr=some (.lf (.cnd n' p d))->∀b,bval n' p d=b ->
      (bif b == want then goOp E σ dec o (λ s t=>Zb8 E all.toList K q s (rmD o.dst dec) (t :: tr))else skOp E o (Zb8 E all.toList K q (σ.skip o.dst) (rmD o.dst dec) (([],[]) :: tr)))=some r ->
      ∃ss σ', K σ' (tr.reverse++ss.map λ s=>(s.need,s.tch))=some r/\Chain P B n all (o :: q) σ ss σ' := λ dec hd n' p d h1 b hb h=>by
     cases hbw:b == want with
     | true =>
      rw[hbw]at h;exact go dec hd (λ ρ Z w a hl=>by rw[Ziy hg ht h1 hl,hb];exact hbw) h
     | false =>
      rw[hbw]at h;exact sk dec hd (λ ρ Z w a hl=>by rw[Ziy hg ht h1 hl,hb];exact hbw) h
    cases hb:lk g dec with
    | some b =>
     simp only[hb]at h;obtain⟨n', p,d,h1,h2⟩:=hd g b hb;exact two dec hd n' p d h1 b h2 h
    | none =>
     simp only[hb]at h
     split at h
     ·
      rename_i n' p d hf
      by_cases hp:p
      ·
       rw[if_pos hp]at h;have hx:(!n' == want)=((!n') == want):=by cases n' <;> cases want <;> rfl
       rw[hx]at h;have hv:bval n' p d = !n' := by unfold bval;rw[decide_eq_true hp];cases n' <;> rfl
       exact two _ (Zgv hd hf hv) n' p d hf _ hv h
      ·
       rw[if_neg hp]at h;have hv:bval n' p d=n' := by unfold bval;rw[decide_eq_false hp];cases n' <;> rfl
       exact two _ (Zgv hd hf hv) n' p d hf _ hv h
     ·
      rename_i hf
      exact sk dec hd (λ ρ Z w a hl=>Ziz hg ht hf hl) h
     ·cases h
end
open Classical in
structure Chg (α : Type) where
 tch:Nat->Prop
 val:Nat -> α
namespace Chg
section
variable {α : Type}
open Classical in
noncomputable def ap (c:Chg α) (f:Nat -> α):Nat -> α := λ T=>if c.tch T then c.val T else f T
noncomputable def fold (m:Nat->Bool):Nat->List (Chg α)->(Nat -> α)->Nat -> α
 | _,[],f=>f
 | i,c :: q,f=>fold m (i+1) q (bif m i then c.ap f else f)
theorem ap_tch {c:Chg α} {f:Nat -> α} {T:Nat} (h:c.tch T):c.ap f T=c.val T:=if_pos h
theorem ap_not {c:Chg α} {f:Nat -> α} {T:Nat} (h:¬ c.tch T):c.ap f T=f T:=if_neg h
theorem ZmB {c:Chg α} {f f' : Nat -> α} {T:Nat} (h:f T=f' T):c.ap f T=c.ap f' T:=by
 by_cases hc:c.tch T
 ·rw[ap_tch hc,ap_tch hc]
 ·rw[ap_not hc,ap_not hc,h]
theorem ZfS {m m' : Nat->Bool} {T:Nat}:∀(cs:List (Chg α)) (i:Nat) (f f' : Nat -> α),(∀j c,cs[j]? = some c->m (i+j)≠m' (i+j)->¬ c.tch T)->f T=f' T->fold m i cs f T=fold m' i cs f' T
 | [],_,_,_,_,h=>h
 | c :: q,i,f,f', hs,h=>by
  unfold fold;refine ZfS q (i+1) _ _ (λ j c' hc hm=>hs (j+1) c' (by simpa using hc) (by rw[show i+(j+1)=i+1+j by omega];exact hm)) ?_
  by_cases hm:m i=m' i
  ·
   rw[<-hm]
   cases m i with
   | true=>exact ZmB h
   | false=>exact h
  ·
   have hc:=hs 0 c rfl hm
   cases m i <;> cases m' i <;> simp only[cond_true,cond_false,ap_not hc,h]
theorem Zh3 {m:Nat->Bool} {T:Nat}:∀(cs:List (Chg α)) (i k:Nat) (f:Nat -> α) (c:Chg α),cs[k]? = some c->m (i+k)=true->c.tch T->(∀j c', k < j->cs[j]? = some c' -> m (i+j)=true->¬ c'.tch T)->fold m i cs f T=c.val T
 | [],_,_,_,_,h,_,_,_=>by simp at h
 | c :: q,i,0,f,c', h,hm,ht,hs=>by
  obtain rfl:c=c' := by simpa using h
  unfold fold;rw[show m i=true from hm];have hq:∀(q:List (Chg α)) (i:Nat) (f:Nat -> α),(∀j c', q[j]? = some c' -> m (i+j)=true->¬ c'.tch T)->fold m i q f T=f T:=by
   intro q
   induction q with
   | nil=>intro i f _;rfl
   | cons c' q ih =>
    intro i f hs;unfold fold;rw[ih _ _ λ j c2 h2 h3=>hs (j+1) c2 (by simpa using h2) (by rw[show i+(j+1)=i+1+j by omega];exact h3)]
    cases hmi:m i with
    | true=>exact ap_not (hs 0 c' rfl hmi)
    | false=>rfl
  rw[hq q (i+1) _ λ j c2 h2 h3=>hs (j+1) c2 (Nat.succ_pos j) (by simpa using h2) (by rw[show i+(j+1)=i+1+j by omega];exact h3)]
  exact ap_tch ht
 | c :: q,i,k+1,f,c', h,hm,ht,hs=>by unfold fold;exact Zh3 q (i+1) k _ c' (by simpa using h) (by rw[show i+1+k=i+(k+1)by omega];exact hm) ht λ j c2 h1 h2 h3=>hs (j+1) c2 (by omega) (by simpa using h2) (by rw[show i+(j+1)=i+1+j by omega];exact h3)
def also (m:Nat->Bool) (k:Nat):Nat->Bool:=λ j=>if j=k then true else m j
theorem fold_also {m:Nat->Bool} {cs:List (Chg α)} {k:Nat} {c:Chg α} {f:Nat -> α} (hc:cs[k]? = some c) (hs:∀j c', k < j->cs[j]? = some c' -> m j=true->∀T,c.tch T->¬ c'.tch T):fold (also m k) 0 cs f=c.ap (fold m 0 cs f):=by
 funext T
 by_cases ht:c.tch T
 ·
  rw[ap_tch ht];refine Zh3 cs 0 k f c hc (by simp[also]) ht λ j c' h1 h2 h3 => ?_
  rw[Nat.zero_add]at h3;unfold also at h3;rw[if_neg (by omega)]at h3;exact hs j c' h1 h2 h3 T ht
 ·
  rw[ap_not ht];refine ZfS cs 0 f f (λ j c' h1 h2 => ?_) rfl;rw[Nat.zero_add]at h2
  by_cases hj:j=k
  ·
   subst hj;rw[hc]at h1
   cases h1
   exact ht
  ·unfold also at h2;rw[if_neg hj]at h2;exact absurd rfl h2
noncomputable def all:List (Chg α)->(Nat -> α)->Nat -> α
 | [],f=>f
 | c :: q,f=>all q (c.ap f)
theorem fold_all {m:Nat->Bool}:∀(cs:List (Chg α)) (i:Nat) (f:Nat -> α),(∀j,j < cs.length->m (i+j)=true)->fold m i cs f=all cs f
 | [],_,_,_=>rfl
 | c :: q,i,f,h=>by unfold fold all;rw[show m i=true from h 0 (by simp)];exact fold_all q (i+1) _ λ j hj=>by rw[show i+1+j=i+(j+1)by omega];exact h (j+1) (by simpa using hj)
theorem fold_none {m:Nat->Bool}:∀(cs:List (Chg α)) (i:Nat) (f:Nat -> α),(∀j,i<=j->m j=false)->fold m i cs f=f
 | [],_,_,_=>rfl
 | c :: q,i,f,h=>by unfold fold;rw[h i (Nat.le_refl _)];exact fold_none q (i+1) _ λ j hj=>h j (by omega)
theorem ZlF:∀(cs:List (Chg α)) (i k:Nat) (f:Nat -> α),fold (λ j=>decide (j < i+k)) i cs f=all (cs.take k) f
 | [],_,_,_=>by simp[fold,all]
 | c :: q,i,0,f=>by rw[fold_none _ _ _ λ j hj=>decide_eq_false (by omega)];rfl
 | c :: q,i,k+1,f=>by unfold fold;rw[decide_eq_true (by omega:i < i+(k+1))];rw[show i+(k+1)=i+1+k by omega];exact ZlF q (i+1) k _
theorem fold_look {m:Nat->Bool} {cs:List (Chg α)} {k:Nat} {f:Nat -> α} {T:Nat} (h1:∀j c,j < k->cs[j]? = some c->m j=false->¬ c.tch T) (h2:∀j c,k<=j->cs[j]? = some c->m j=true->¬ c.tch T):fold m 0 cs f T=all (cs.take k) f T:=by
 rw[<-ZlF cs 0 k f];refine ZfS cs 0 f f (λ j c hc hm => ?_) rfl;rw[Nat.zero_add]at hm
 by_cases hj:j < k
 ·
  refine h1 j c hj hc ?_;rw[Nat.zero_add,decide_eq_true hj]at hm
  cases h:m j with
  | true=>exact absurd h hm
  | false=>rfl
 ·
  refine h2 j c (by omega) hc ?_;rw[Nat.zero_add,decide_eq_false hj]at hm
  cases h:m j with
  | true=>rfl
  | false=>exact absurd h hm
end
end Chg
def cnt (m:Nat->Bool):Nat->Nat
 | 0=>0
 | k+1=>cnt m k+(bif m k then 0 else 1)
theorem ZjH {m:Nat->Bool}:∀{n:Nat},cnt m n=0->∀i,i < n->m i=true
 | 0,_,_,h=>absurd h (Nat.not_lt_zero _)
 | n+1,h,i,hi=>by
  unfold cnt at h
  cases hm:m n with
  | false=>rw[hm]at h;simp at h
  | true =>
   rw[hm]at h;rcases Nat.lt_succ_iff_lt_or_eq.1 hi with hi|rfl
   ·exact ZjH (by simpa using h) i hi
   ·exact hm
theorem Zli {m:Nat->Bool} {k:Nat}:∀{n:Nat},n<=k->cnt (Chg.also m k) n=cnt m n
 | 0,_=>rfl
 | n+1,h=>by unfold cnt;rw[Zli (by omega),show Chg.also m k n=m n from if_neg (by omega)]
theorem ZjG {m:Nat->Bool} {k:Nat} (hk:m k=false):∀{n:Nat},k < n->cnt (Chg.also m k) n+1=cnt m n
 | 0,h=>absurd h (Nat.not_lt_zero _)
 | n+1,h=>by
  unfold cnt;rcases Nat.lt_succ_iff_lt_or_eq.1 h with h|rfl
  ·rw[show Chg.also m k n=m n from if_neg (by omega),<-ZjG hk h];omega
  ·rw[Zli (Nat.le_refl _),hk,show Chg.also m k k=true from if_pos rfl];rfl
theorem Zns {m:Nat->Bool}:∀n:Nat,cnt m n<=n
 | 0=>Nat.le_refl _
 | n+1=>by
  unfold cnt;have:=Zns (m:=m) n
  cases m n <;> simp <;> omega
end Go.Proofs.YtdamfbighdkcbaaGreat.D
