/- What the proof of the law Steps stands on, part 0: words, each Go function's Lean function, and that the Go code comes to its answers; no condition. (Packed by wip/myprint/pack.py out of what the kit's printer wrote, its words among it, partly by our patches of it, and out of texts of this session.) -/
import Derived.Below
import Derived.Laws.OwnMore
import Derived.Deep.LoopGhost
import Derived.Orders
import Derived.KernelRfl
import Derived.Laws.Wrap64
import Derived.Laws.Slices
import Derived.IntWalk
import Derived.Great.BuildSlice
set_option linter.unusedVariables false
set_option linter.unusedSimpArgs false
namespace Go.Proofs.YtdamfbighdkcbaaGreat.D
open Go Go.RowKit
inductive Ty where
 | int (k:IntKind)
 | bool
 | str
 | raw
 | sl (e:TypeId) (t:Ty)
 | pr (a b:Ty)
@[reducible] def Ty.den:Ty->Type
 | .int _=>Int
 | .bool=>Bool
 | .str=>ByteArray
 | .raw=>Value
 | .sl _ t=>List t.den
 | .pr a b=>a.den×b.den
def Ty.size:Ty->Nat
 | .pr a b=>a.size+b.size
 | _=>1
def Ty.zero:(t:Ty)->t.den
 | .int _=>(0:Int)
 | .bool=>false
 | .str=>ByteArray.empty
 | .raw=>Value.slice none 0 0
 | .sl _ t=>([]:List t.den)
 | .pr a b=>(a.zero,b.zero)
structure PL (p:Prop):Type where
 down:p
def Ty.eq? : (a b:Ty)->Option (PL (a=b))
 | .int j,.int k=>if h:j=k then some ⟨by rw[h]⟩else none
 | .bool,.bool=>some ⟨rfl⟩
 | .str,.str=>some ⟨rfl⟩
 | .raw,.raw=>some ⟨rfl⟩
 | .sl e a,.sl f b=>if h:e=f then(match Ty.eq? a b with
   | some h' => some ⟨by rw[h,h'.down]⟩
   | none=>none)else none
 | .pr a b,.pr c d=>(match Ty.eq? a c with
   | some h=>(match Ty.eq? b d with
    | some h' => some ⟨by rw[h.down,h'.down]⟩
    | none=>none)
   | none=>none)
 | _,_=>none
def Ty.rd (t:Ty) (xs:List t.den) (i:Int):t.den:=xs.getD i.toNat t.zero
@[reducible] def dens:List Ty->Type
 | []=>Unit
 | t :: r=>t.den×dens r
inductive Lf where
 | int (k:IntKind) (n:Int)
 | cnd (neg:Bool) (p:Prop) (d:Decidable p)
 | str (s:ByteArray)
 | raw (v:Value)
 | sl (t:Ty) (xs:List t.den)
 | nil
 | own (T:Nat)
 | sub (T:Nat) (j:Nat)
 | box (T:Nat) (off:Nat)
 | elt (T:Nat) (i:Int) (sz off:Nat)
 | vpt (t:Ty) (x:t.den) (off:Nat)
 | fn (asx:List Ty) (r:Ty) (f:dens asx->Option r.den)
 | clo (f:FuncId) (caps:List (Nat×Nat))
 | undef
 | top
 | emp (b:Bool)
 | pre (T:Nat) (n:Nat)
inductive AV where
 | lf (l:Lf)
 | agg (ls:List Lf)
 | tup (vs:List (Bool×List Lf))
inductive Ob where
 | box (t:TypeId) (ro:Bool) (cells:List Lf)
 | row (e:TypeId) (m:Bool) (t:Ty) (xs:List t.den)
 | hole (e:TypeId) (t:Ty) (xs:List t.den) (hl:List (Nat×Nat))
structure St where
 fr:List (Nat×AV)
 ob:List (Nat×Ob)
 nx:Nat
section
universe u
variable {α : Type u}
def lk (n:Nat):List (Nat × α)->Option α
 | []=>none
 | (m,a) :: r=>bif Nat.beq n m then some a else lk n r
def pt (n:Nat) (a : α):List (Nat × α)->List (Nat × α)
 | []=>[(n,a)]
 | (m,b) :: r=>bif Nat.beq n m then(n,a) :: r else(m,b) :: pt n a r
def rm (n:Nat):List (Nat × α)->List (Nat × α)
 | []=>[]
 | (m,b) :: r=>bif Nat.beq n m then rm n r else(m,b) :: rm n r
def pts:List (Nat × α)->List (Nat × α)->List (Nat × α)
 | [],l=>l
 | (n,a) :: r,l=>pts r (pt n a l)
def rms:List Nat->List (Nat × α)->List (Nat × α)
 | [],l=>l
 | n :: r,l=>rms r (rm n l)
end
inductive TK where
 | int (k:IntKind)
 | bool
 | str
 | sl (e:TypeId)
 | st (fs:List (Nat×TypeId))
 | other
structure TI where
 kind:TK
 size:Nat
 bytes:Nat
 zero:List Lf
 ty:Ty
 el:Bool
inductive LS where
 | v (t:Ty)
 | own (e:TypeId) (m:Bool) (t:Ty)
 | fn (asx:List Ty) (r:Ty)
inductive ASh where
 | one (s:LS)
 | agg (ss:List LS)
 | ptr (ro:Bool) (t:TypeId) (ss:List LS)
 | eat (e:TypeId) (m:Bool) (t:Ty)
 | non
@[reducible] def LS.den:LS->Type
 | .v t=>t.den
 | .own _ _ t=>List t.den
 | .fn asx r=>dens asx->Option r.den
@[reducible] def lsd:List LS->Type
 | []=>Unit
 | s :: r=>s.den×lsd r
def ASh.flat:ASh->List LS
 | .one s=>[s]
 | .agg ss=>ss
 | .ptr _ _ ss=>ss
 | .eat e m t=>[.own e m t]
 | .non=>[]
def flats:List ASh->List LS
 | []=>[]
 | a :: r=>a.flat++flats r
def LS.back:LS->List LS
 | .own e m t=>[.own e m t]
 | _=>[]
def backs:List LS->List LS
 | []=>[]
 | s :: r=>s.back++backs r
def ASh.io:ASh->List LS
 | .one s=>s.back
 | .agg ss=>backs ss
 | .ptr ro _ ss=>bif ro then []else ss
 | .eat _ _ _=>[]
 | .non=>[]
def ios:List ASh->List LS
 | []=>[]
 | a :: r=>a.io++ios r
structure Con where
 ins:List ASh
 outs:List ASh
 R:Type
 f:lsd (flats ins)->Option R
 dec:R->lsd (flats outs)×lsd (ios ins)
structure Env where
 tt:List (Nat×TI)
 con:List (Nat×Con)
 frz:List Nat
 rows:List Nat
 live:List (Nat×List Nat)
 n:Nat
 pin:Nat
 nils:List Nat
 opn:List (Nat×List (Operand×Operand)):=[]
 pick:List (Nat×Nat):=[]
structure Eff where
 v:AV
 add:List (Nat×Ob)
 del:List Nat
inductive Pg (γ : Type):Type 1 where
 | fail
 | ret (g : γ)
 | obj (T:Nat) (f:Ob->Pg γ)
 | test (p:Prop) (d:Decidable p) (x y:Pg γ)
 | call {α : Type} (v:Option α) (f : α -> Pg γ)
def Pg.run {β γ : Type} (ob:List (Nat×Ob)) (K : γ -> List Nat->Option β):Pg γ -> List Nat->Option β
 | .fail,_=>none
 | .ret g,nd=>K g nd
 | .obj T f,nd=>match lk T ob with
  | some o=>(f o).run ob K (T :: nd)
  | none=>none
 | .test p d x y,nd => @ite _ p d (x.run ob K nd) (y.run ob K nd)
 | .call v f,nd=>v.bind λ a=>(f a).run ob K nd
def ok (v:AV) (add:List (Nat×Ob)) (del:List Nat):Pg Eff := .ret ⟨v,add,del⟩
section
variable {γ : Type}
def guard (p:Prop) [d:Decidable p] (x:Pg γ):Pg γ := .test p d x .fail
def chk (b:Bool) (x:Pg γ):Pg γ := bif b then x else .fail
end
def nf (e:Nat):Bool:=Nat.ble 1000000 e
def ZjS {γ : Type} (e n:Nat) (x:Pg γ):Pg γ := bif nf e then guard (0 < n) x else x
def bval (n:Bool) (p:Prop) (d:Decidable p):Bool:=bif n then !(@decide p d)else @decide p d
def ZcK (b:Bool):Lf := .cnd false (b=true) (instDecidableEqBool b true)
def tru:Lf := .cnd false True instDecidableTrue
def fls:Lf := .cnd true True instDecidableTrue
def Zg5:Value->Option Lf
 | .int k n=>some (.int k n)
 | .bool true=>some tru
 | .bool false=>some fls
 | .string s=>some (.str s)
 | .slice none 0 0=>some .nil
 | .pointer none=>some .top
 | _=>none
def Zd5:List Value->Option (List Lf)
 | []=>some []
 | v :: r=>match Zg5 v,Zd5 r with
  | some l,some ls=>some (l :: ls)
  | _,_=>none
def ZiN:Value->Option AV
 | .agg cs=>match Zd5 cs.toList with
  | some ls=>some (.agg ls)
  | none=>none
 | v=>match Zg5 v with
  | some l=>some (.lf l)
  | none=>none
def ev (fr:List (Nat×AV)):Operand->Option AV
 | .tmp t=>lk t fr
 | .const v=>ZiN v
 | .func f=>some (.lf (.clo f []))
 | .global _=>none
def Lf.ok:Lf->Bool
 | .undef=>false
 | _=>true
def lfsOk:List Lf->Bool
 | []=>true
 | l :: r=>l.ok && lfsOk r
def cellsOf:AV->Option (List Lf)
 | .lf l=>bif l.ok then some [l]else none
 | .agg ls=>bif lfsOk ls then some ls else none
 | .tup _=>none
def leaves:(t:Ty)->t.den->List Lf
 | .int k,n=>[.int k n]
 | .bool,b=>[ZcK b]
 | .str,s=>[.str s]
 | .raw,v=>[.raw v]
 | .sl _ t,xs=>[.sl t xs]
 | .pr a b,x=>leaves a x.1++leaves b x.2
def Ty.flat:Ty->Bool
 | .sl _ _=>false
 | .pr a b=>a.flat && b.flat
 | _=>true
noncomputable def hid (z:Int):Int:=Classical.choose (⟨z,rfl⟩:∃y,y=z)
theorem ZcW (z:Int):hid z=z:=Classical.choose_spec (⟨z,rfl⟩:∃y,y=z)
noncomputable def szs (a b:ByteArray):Int:=hid ((a.size+b.size:Nat):Int)
noncomputable def wrapI (x:Int):Int:=hid (wrap64 x)
noncomputable def wr:IntKind->Int->Int
 | .i64,x=>wrapI x
 | k,x=>hid (k.wrap x)
def kb:IntKind->Nat
 | .i8=>0 | .i16=>1 | .i32=>2 | .i64=>3 | .u8=>4 | .u16=>5 | .u32=>6 | .u64=>7
def nodup:List Nat->Bool
 | []=>true
 | n :: r => !(r.contains n) && nodup r
def toDen {γ : Type} (q:Nat):(t:Ty)->List Lf->(t.den->List Lf->List Nat->Pg γ)->Pg γ
 | .int k,.int k' n :: r,K=>chk (Nat.beq (kb k) (kb k')) (K n r [])
 | .bool,.cnd n p d :: r,K=>K (bif n then !(@decide p d)else @decide p d) r []
 | .str,.str s :: r,K=>K s r []
 | .raw,.raw v :: r,K=>K v r []
 | .raw,.nil :: r,K=>K (.slice none 0 0) r []
 | .sl e t,.sl t' xs :: r,K=>chk (!(Nat.beq q 1)) (match Ty.eq? t' t with
  | some h=>ZjS e (List.length xs) (K (h.down ▸ xs) r [])
  | none => .fail)
 | .sl e t,.nil :: r,K=>K ([]:List t.den) r []
 | .sl e t,.own T :: r,K=>chk (!(Nat.beq q 0)) (.obj T fun
  | .row e' m t' xs=>chk (Nat.beq e' e && (Nat.beq q 2 || m)) (match Ty.eq? t' t with
   | some h=>ZjS e (List.length xs) (K (h.down ▸ xs) r [T])
   | none => .fail)
  | _ => .fail)
 | .pr a b,ls,K=>toDen q a ls λ x r c=>toDen q b r λ y r' c' => K (x,y) r' (c++c')
 | _,_,_ => .fail
def qm (m:Bool):Nat:=bif m then 1 else 0
def Zf9 (i:TI) (ls:List Lf):Pg Eff:=match i.kind with
 | .st _=>chk (Nat.beq ls.length i.size) (ok (.agg ls) [] [])
 | _=>match ls with
  | [l]=>ok (.lf l) [] []
  | _ => .fail
def pLoad (E:Env) (t:TypeId):AV->Pg Eff
 | .lf (.box T off)=>match lk t E.tt with
  | some i => .obj T fun
   | .box _ _ cells=>Zf9 i ((cells.drop off).take i.size)
   | _ => .fail
  | none => .fail
 | .lf (.elt T j sz off)=>match lk t E.tt with
  | some i => .obj T fun
   | .row _ m t' xs=>chk ((!m || t'.flat) && Nat.beq sz t'.size) (guard (0<=j) (guard (j < (xs.length:Int)) (Zf9 i (((leaves t' (t'.rd xs j)).drop off).take i.size))))
   | _ => .fail
  | none => .fail
 | .lf (.vpt t' x off)=>match lk t E.tt with
  | some i=>Zf9 i (((leaves t' x).drop off).take i.size)
  | none => .fail
 | _ => .fail
def ZjT {γ : Type} (i:Int):List (Nat×Nat)->(Nat->Pg γ)->Pg γ -> Pg γ
 | [],_,K=>K
 | (j,n) :: r,F,K => .test (i=(j:Int)) inferInstance (F n) (ZjT i r F K)
def endAt (k:Nat):List (Nat×Nat)->Option (Nat×Nat)
 | []=>none
 | x :: r=>bif Nat.ble r.length k then some x else endAt k r
def ZhY (k N:Nat):List (Nat×Nat)->List (Nat×Nat)
 | []=>[]
 | (j,n) :: r=>bif Nat.ble r.length k then(j,N) :: r else(j,n) :: ZhY k N r
def pk (E:Env):Option Nat->Nat
 | some d=>(lk d E.pick).getD 0
 | none=>0
def pkO (E:Env):Operand->Nat
 | .tmp t=>pk E (some t)
 | _=>0
def ZlR (nx T:Nat) (j:Int):Pg (List (Nat×Ob)) := .obj T fun
 | .row e true (.sl e' t) xs=>guard (0<=j) (guard (j < (List.length (α := List t.den) xs:Int)) (.ret [(nx,.row e' true t (Ty.rd (.sl e' t) xs j)),(T,.hole e (.sl e' t) xs [(j.toNat,nx)])]))
 | .hole e (.sl e' t) xs hl=>guard (0<=j) (guard (j < (List.length (α := List t.den) xs:Int)) (ZjT j hl (λ _ => .ret []) (.ret [(nx,.row e' true t (Ty.rd (.sl e' t) xs j)),(T,.hole e (.sl e' t) xs ((j.toNat,nx) :: hl))])))
 | _ => .fail
def Zij (E:Env) (nx:Nat) (t:TypeId) (k:Nat):AV->Pg Eff
 | .lf (.elt T j 1 0) => .obj T fun
  | .row e true (.sl e' t'') xs=>match lk t E.tt with
   | some i=>match i.kind with
    | .st _ => .fail
    | _=>guard (0<=j) (guard (j < (List.length (α := List t''.den) xs:Int)) (ok (.lf (.own nx)) [(nx,.row e' true t'' (Ty.rd (.sl e' t'') xs j)),(T,.hole e (.sl e' t'') xs [(j.toNat,nx)])] []))
   | none => .fail
  | .hole e (.sl e' t'') xs hl=>match lk t E.tt with
   | some i=>match i.kind with
    | .st _ => .fail
    | _=>guard (0<=j) (guard (j < (List.length (α := List t''.den) xs:Int)) (match endAt k hl with
     | some (j', n)=>guard (j=(j' : Int)) (ok (.lf (.own n)) [] [])
     | none => .fail))
   | none => .fail
  | _=>pLoad E t (.lf (.elt T j 1 0))
 | v=>pLoad E t v
def Zii (E:Env) (nx:Nat) (t:TypeId) (k:Nat):AV->Pg Eff
 | .lf (.elt T j 1 0) => .obj T fun
  | .row _ false (.sl e' t'') xs=>bif nf e' then(match lk t E.tt with
   | some i=>match i.kind with
    | .st _ => .fail
    | _=>guard (0<=j) (guard (j < (List.length (α := List t''.den) xs:Int)) (.test (List.length (α := t''.den) (Ty.rd (.sl e' t'') xs j)=0) inferInstance (ok (.lf .nil) [] []) (ok (.lf (.sl t'' (Ty.rd (.sl e' t'') xs j))) [] [])))
   | none => .fail)else Zij E nx t k (.lf (.elt T j 1 0))
  | _=>Zij E nx t k (.lf (.elt T j 1 0))
 | v=>Zij E nx t k v
def ZlY (E:Env) (nx:Nat) (t:TypeId) (k:Nat):AV->Pg Eff
 | .lf (.vpt (.sl e' t'') x 0)=>bif nf e' then(match lk t E.tt with
  | some i=>match i.kind with
   | .st _ => .fail
   | _ => .test (List.length (α := t''.den) x=0) inferInstance (ok (.lf .nil) [] []) (ok (.lf (.sl t'' x)) [] [])
  | none => .fail)else Zii E nx t k (.lf (.vpt (.sl e' t'') x 0))
 | v=>Zii E nx t k v
def splice (cells:List Lf) (off:Nat) (ls:List Lf):List Lf:=cells.take off++ls++cells.drop (off+ls.length)
def Zin (E:Env) (t:TypeId) (a v:AV):Pg Eff:=match lk t E.tt,cellsOf v with
 | some i,some ls=>chk (Nat.beq ls.length i.size) (match a with
  | .lf (.box T off) => .obj T fun
   | .box bt false cells=>chk (Nat.ble (off+ls.length) cells.length) (ok (.lf .undef) [(T,.box bt false (splice cells off ls))] [])
   | _ => .fail
  | .lf (.elt T j sz 0) => .obj T fun
   | .row e m t' xs=>chk (Nat.beq t'.size ls.length && Nat.beq sz t'.size) (guard (0<=j) (guard (j < (xs.length:Int)) (toDen (qm m) t' ls λ x r c=>chk (nodup c && !(c.contains T)) (ok (.lf .undef) [(T,.row e m t' (xs.set j.toNat x))] c))))
   | _ => .fail
  | _ => .fail)
 | _,_ => .fail
def Zje (E:Env) (t:TypeId) (k:Nat) (a v:AV):Pg Eff:=match a with
 | .lf (.elt T j 1 0)=>match v with
  | .lf (.own N) => .obj T fun
   | .hole e (.sl e' t'') xs hl=>match lk t E.tt with
    | some i=>chk (Nat.beq i.size 1) (guard (0<=j) (guard (j < (List.length (α := List t''.den) xs:Int)) (match endAt k hl with
     | some (j', _)=>guard (j=(j' : Int)) (ok (.lf .undef) [(T,.hole e (.sl e' t'') xs (ZhY k N hl))] [])
     | none => .fail)))
    | none => .fail
   | _=>Zin E t (.lf (.elt T j 1 0)) (.lf (.own N))
  | v=>Zin E t (.lf (.elt T j 1 0)) v
 | a=>Zin E t a v
def Zfa (E:Env) (t:TypeId) (x ix:AV):Pg Eff:=match lk t E.tt with
 | some i=>match i.kind with
  | .sl e=>match lk e E.tt,ix with
   | some ie,.lf (.int k j)=>match x with
    | .lf (.sl t' xs)=>chk (Nat.beq t'.size ie.size) (guard (0<=j) (guard (j < (xs.length:Int)) (ok (.lf (.vpt t' (t'.rd xs j) 0)) [] [])))
    | .lf (.own T) => .obj T fun
     | .row e' m t' xs=>chk (Nat.beq t'.size ie.size) (guard (0<=j) (guard (j < (xs.length:Int)) (ok (.lf (.elt T j t'.size 0)) [] [])))
     | .hole e' t' xs hl=>chk (Nat.beq t'.size ie.size) (guard (0<=j) (guard (j < (xs.length:Int)) (ok (.lf (.elt T j t'.size 0)) [] [])))
     | _ => .fail
    | .lf (.sub T j0) => .obj T fun
     | .row e' m t' xs=>chk (Nat.beq t'.size ie.size && Nat.beq ie.size 1) (guard (0<=j) (guard ((j0:Int)+j < (xs.length:Int)) (ok (.lf (.elt T ((j0:Int)+j) 1 0)) [] [])))
     | _ => .fail
    | _ => .fail
   | _,_ => .fail
  | _ => .fail
 | none => .fail
def nthF:List (Nat×TypeId)->Nat->Option (Nat×TypeId)
 | [],_=>none
 | x :: _,0=>some x
 | _ :: r,n+1=>nthF r n
def Ze9 (E:Env) (t:TypeId) (x:AV) (f:Nat):Pg Eff:=match lk t E.tt with
 | some i=>match i.kind with
  | .st fs=>match nthF fs f with
   | some (o,ft)=>match lk ft E.tt with
    | some fi=>chk (!(Nat.beq fi.size 0)) (match x with
     | .lf (.box T off)=>ok (.lf (.box T (off+o))) [] []
     | .lf (.elt T j sz off)=>ok (.lf (.elt T j sz (off+o))) [] []
     | .lf (.vpt t' y off)=>ok (.lf (.vpt t' y (off+o))) [] []
     | _ => .fail)
    | none => .fail
   | none => .fail
  | _ => .fail
 | none => .fail
def ZlW (E:Env) (t:TypeId) (x:AV) (f:Nat):Pg Eff:=match lk t E.tt with
 | some i=>match i.kind with
  | .st fs=>match nthF fs f with
   | some (o,ft)=>match lk ft E.tt,x with
    | some fi,.agg ls=>Zf9 fi ((ls.drop o).take fi.size)
    | _,_ => .fail
   | none => .fail
  | _ => .fail
 | none => .fail
noncomputable def shlI (k:IntKind) (a b:Int):Int:=hid (wr k (a*2 ^ (min b.toNat k.bits)))
noncomputable def shrI (k:IntKind) (a b:Int):Int:=hid (a.fdiv (2 ^ (min b.toNat k.bits)))
noncomputable def andI (k:IntKind) (a b:Int):Int:=hid (wr k (BitVec.ofInt k.bits a &&& BitVec.ofInt k.bits b).toNat)
noncomputable def orI (k:IntKind) (a b:Int):Int:=hid (wr k (BitVec.ofInt k.bits a ||| BitVec.ofInt k.bits b).toNat)
noncomputable def xorI (k:IntKind) (a b:Int):Int:=hid (wr k (BitVec.ofInt k.bits a ^^^ BitVec.ofInt k.bits b).toNat)
noncomputable def ZiF (k:IntKind) (a b:Int):Int:=hid (wr k (BitVec.ofInt k.bits a &&& ~~~BitVec.ofInt k.bits b).toNat)
noncomputable def pBinK (op:BinOp) (k k' : IntKind) (a b:Int):Pg Eff:=chk (Nat.beq (kb k) (kb k')) (match op with
  | .add=>ok (.lf (.int k (wr k (a+b)))) [] []
  | .sub=>ok (.lf (.int k (wr k (a - b)))) [] []
  | .mul=>ok (.lf (.int k (wr k (a*b)))) [] []
  | .quo => .test (b=0) inferInstance .fail (ok (.lf (.int k (wr k (a.tdiv b)))) [] [])
  | .rem => .test (b=0) inferInstance .fail (ok (.lf (.int k (a.tmod b))) [] [])
  | .eql=>ok (.lf (.cnd false (a=b) inferInstance)) [] []
  | .neq=>ok (.lf (.cnd true (a=b) inferInstance)) [] []
  | .lss=>ok (.lf (.cnd false (a < b) inferInstance)) [] []
  | .leq=>ok (.lf (.cnd false (a<=b) inferInstance)) [] []
  | .gtr=>ok (.lf (.cnd false (a > b) inferInstance)) [] []
  | .geq=>ok (.lf (.cnd false (a>=b) inferInstance)) [] []
  | .and=>ok (.lf (.int k (andI k a b))) [] []
  | .or=>ok (.lf (.int k (orI k a b))) [] []
  | .xor=>ok (.lf (.int k (xorI k a b))) [] []
  | .andNot=>ok (.lf (.int k (ZiF k a b))) [] []
  | _ => .fail)
noncomputable def pBin (op:BinOp):AV->AV->Pg Eff
 | .lf (.int k a),.lf (.int k' b)=>match op with
  | .shl => .test (b < 0) inferInstance .fail (ok (.lf (.int k (shlI k a b))) [] [])
  | .shr => .test (b < 0) inferInstance .fail (ok (.lf (.int k (shrI k a b))) [] [])
  | op=>pBinK op k k' a b
 | _,_ => .fail
noncomputable def pBinN (E:Env) (t:TypeId) (op:BinOp):AV->AV->Pg Eff
 | .lf .nil,.lf .nil=>match lk t E.tt with
  | some i=>match i.kind,op with
   | .sl _,.eql=>ok (.lf tru) [] []
   | .sl _,.neq=>ok (.lf fls) [] []
   | _,_ => .fail
  | none => .fail
 | .lf (.sl t' xs),.lf .nil=>match lk t E.tt with
  | some i=>match i.kind,op with
   | .sl _,.eql=>guard (0 < List.length xs) (ok (.lf fls) [] [])
   | .sl _,.neq=>guard (0 < List.length xs) (ok (.lf tru) [] [])
   | _,_ => .fail
  | none => .fail
 | .lf (.own T),.lf .nil=>match lk t E.tt with
  | some i=>match i.kind,op with
   | .sl _,.eql => .obj T fun
    | .row _ _ _ xs=>guard (0 < List.length xs) (ok (.lf fls) [] [])
    | _ => .fail
   | .sl _,.neq => .obj T fun
    | .row _ _ _ xs=>guard (0 < List.length xs) (ok (.lf tru) [] [])
    | _ => .fail
   | _,_ => .fail
  | none => .fail
 | .lf (.emp b),.lf .nil=>match lk t E.tt with
  | some i=>match i.kind,op with
   | .sl _,.eql=>ok (.lf (bif b then tru else fls)) [] []
   | .sl _,.neq=>ok (.lf (bif b then fls else tru)) [] []
   | _,_ => .fail
  | none => .fail
 | .lf (.cnd n p d),.lf (.cnd n' p' d')=>match lk t E.tt with
  | some i=>match i.kind,op with
   | .bool,.eql=>ok (.lf (.cnd false (bval n p d=bval n' p' d') inferInstance)) [] []
   | .bool,.neq=>ok (.lf (.cnd true (bval n p d=bval n' p' d') inferInstance)) [] []
   | _,_ => .fail
  | none => .fail
 | .lf (.str a),.lf (.str b)=>match lk t E.tt with
  | some i=>match i.kind,op with
   | .str,.eql=>ok (.lf (.cnd false (a=b) inferInstance)) [] []
   | .str,.neq=>ok (.lf (.cnd true (a=b) inferInstance)) [] []
   | .str,.add=>guard (szs a b<=9223372036854775807) (ok (.lf (.str (a++b))) [] [])
   | _,_ => .fail
  | none => .fail
 | a,b=>pBin op a b
noncomputable def pUn (op:UnOp):AV->Pg Eff
 | .lf (.cnd n p d)=>match op with
  | .not=>ok (.lf (.cnd (!n) p d)) [] []
  | _ => .fail
 | .lf (.int k a)=>match op with
  | .neg=>ok (.lf (.int k (wr k (0 - a)))) [] []
  | _ => .fail
 | _ => .fail
def okO:Option AV->Pg Eff
 | some v=>ok v [] []
 | none => .fail
def pPick (f:Operand->Option AV) (c a b:Operand):Pg Eff:=match f c with
 | some (.lf (.cnd n p d)) => .test p d (okO (bif n then f b else f a)) (okO (bif n then f a else f b))
 | _ => .fail
def Zeb (s:ByteArray) (i:Int):Int:=((s.data.getD i.toNat 0).toNat:Int)
def Zja (E:Env) (t:TypeId):AV->AV->Pg Eff
 | .lf (.str s),.lf (.int k j)=>match lk t E.tt with
  | some i=>match i.kind with
   | .str=>guard (0<=j) (guard (j < (s.size:Int)) (ok (.lf (.int .u8 (Zeb s j))) [] []))
   | _ => .fail
  | none => .fail
 | _,_ => .fail
def Zhk (n:Nat):AV->Pg Eff
 | .tup vs=>match vs[n]? with
  | some (false,[l])=>ok (.lf l) [] []
  | some (true,ls)=>ok (.agg ls) [] []
  | _ => .fail
 | _ => .fail
def Zej (E:Env) (f:Operand->Option AV) (fs:List (Nat×TypeId)):List (Nat×Operand)->List Lf->Pg Eff
 | [],cells=>ok (.agg cells) [] []
 | (j,x) :: r,cells=>match nthF fs j,f x with
  | some (o,ft),some v=>match lk ft E.tt,cellsOf v with
   | some fi,some ls=>chk (Nat.beq ls.length fi.size && Nat.ble (o+ls.length) cells.length) (Zej E f fs r (splice cells o ls))
   | _,_ => .fail
  | _,_ => .fail
def Zie (E:Env) (f:Operand->Option AV) (t:TypeId) (parts:List (Nat×Operand)):Pg Eff:=match lk t E.tt with
 | some i=>match i.kind with
  | .st fs=>chk (Nat.beq i.zero.length i.size && !(Nat.beq i.size 0)) (Zej E f fs parts i.zero)
  | _ => .fail
 | none => .fail
def elems (f:Operand->Option AV) (m:Bool) (t:Ty):Nat->List (Nat×Operand)->(List t.den->List Nat->Pg Eff)->Pg Eff
 | _,[],K=>K [] []
 | n,(i,x) :: r,K=>chk (Nat.beq n i) (match f x with
  | some v=>match cellsOf v with
   | some ls=>chk (Nat.beq ls.length t.size) (toDen (qm m) t ls λ y r' c=>chk r'.isEmpty (elems f m t (n+1) r λ ys c' => K (y :: ys) (c++c')))
   | none => .fail
  | none => .fail)
def Zdu (E:Env) (nx:Nat) (f:Operand->Option AV) (m:Bool) (t:TypeId) (n:Nat) (parts:List (Nat×Operand)):Pg Eff:=match lk t E.tt with
 | some i=>match i.kind with
  | .sl e=>match lk e E.tt with
   | some ie=>chk (Nat.beq n parts.length && Nat.ble (n*ie.size) 16777216 && Nat.beq ie.ty.size ie.size && ie.el && Nat.beq ie.zero.length ie.size) (elems f m ie.ty 0 parts λ ys c=>chk (nodup c) (ok (.lf (.own nx)) [(nx,.row e m ie.ty ys)] c))
   | none => .fail
  | _ => .fail
 | none => .fail
def lim (bytes:Nat):Nat:=140737488355328 / bytes
def pMake (E:Env) (nx:Nat) (m:Bool) (t:TypeId):AV->AV->Pg Eff
 | .lf (.int k n),.lf (.int k' n')=>match lk t E.tt with
  | some i=>match i.kind with
   | .sl e=>match lk e E.tt with
    | some ie=>chk (Nat.beq ie.ty.size ie.size && !(Nat.beq ie.bytes 0) && ie.el && Nat.beq ie.zero.length ie.size) (guard (n=n') (guard (0<=n) (guard (n.toNat<=lim ie.bytes) (ok (.lf (.own nx)) [(nx,.row e m ie.ty (List.replicate n.toNat ie.ty.zero))] []))))
    | none => .fail
   | _ => .fail
  | none => .fail
 | _,_ => .fail
def ZlZ (E:Env) (nx:Nat) (t:TypeId):AV->AV->Pg Eff
 | .lf (.int k n),.lf (.int k' n')=>match lk t E.tt with
  | some i=>match i.kind with
   | .sl e=>match lk e E.tt with
    | some ie=>match ie.ty,ie.zero with
     | .sl e3 t3,[.nil]=>chk (Nat.beq ie.size 1 && !(Nat.beq ie.bytes 0) && ie.el) (guard (n=n') (guard (0<=n) (guard (n.toNat<=lim ie.bytes) (ok (.lf (.own nx)) [(nx,.row e false (.sl (e3+1000000) t3) (List.replicate (α := List t3.den) n.toNat ([]:List t3.den)))] []))))
     | _,_ => .fail
    | none => .fail
   | _ => .fail
  | none => .fail
 | _,_ => .fail
def isSl:TK->Bool
 | .sl _=>true
 | _=>false
def isStr:TK->Bool
 | .str=>true
 | _=>false
def pLen (kd:TK):AV->Pg Eff
 | .lf (.sl _ xs)=>chk (isSl kd) (ok (.lf (.int .i64 (xs.length:Int))) [] [])
 | .lf .nil=>chk (isSl kd) (ok (.lf (.int .i64 0)) [] [])
 | .lf (.str s)=>chk (isStr kd) (ok (.lf (.int .i64 (s.size:Int))) [] [])
 | .lf (.own T)=>chk (isSl kd) (.obj T fun
  | .row _ _ _ xs=>ok (.lf (.int .i64 (xs.length:Int))) [] []
  | _ => .fail)
 | .lf (.sub T j)=>chk (isSl kd) (.obj T fun
  | .row _ _ _ xs=>ok (.lf (.int .i64 ((xs.length - j:Nat):Int))) [] []
  | _ => .fail)
 | _ => .fail
def added (m:Bool) (e:TypeId) (t:Ty):AV->(List t.den->List Nat->Pg Eff)->Pg Eff
 | .lf .nil,K=>K [] []
 | .lf (.emp _),K=>K [] []
 | .lf (.sl t' ys),K=>chk (!m || t.flat) (match Ty.eq? t' t with
  | some h=>K (h.down ▸ ys) []
  | none => .fail)
 | .lf (.own T),K => .obj T fun
  | .row e' m' t' ys=>chk (Nat.beq e' e && (t.flat || (m && m') || (!m && !m'))) (match Ty.eq? t' t with
   | some h=>K (h.down ▸ ys) (bif t.flat then []else [T])
   | none => .fail)
  | _ => .fail
 | _,_ => .fail
def Zi4 (E:Env) (nx:Nat) (m:Bool) (t:TypeId) (s x:AV):Pg Eff:=match lk t E.tt with
 | some i=>match i.kind with
  | .sl e=>match lk e E.tt with
   | some ie=>chk (Nat.beq ie.ty.size ie.size && !(Nat.beq ie.bytes 0) && ie.el && Nat.beq ie.zero.length ie.size) (match s with
    | .lf .nil=>added m e ie.ty x λ ys c=>guard (ys.length<=lim ie.bytes) (ok (.lf (.own nx)) [(nx,.row e m ie.ty ys)] c)
    | .lf (.own T) => .obj T fun
     | .row e' m' t' xs=>chk (Nat.beq e' e) (match Ty.eq? t' ie.ty with
      | some h=>added m' e ie.ty x λ ys c=>chk (!(c.contains T)) (guard (xs.length+ys.length<=lim ie.bytes) (ok (.lf (.own nx)) [(nx,.row e m' ie.ty ((h.down ▸ xs)++ys))] (T :: c)))
      | none => .fail)
     | _ => .fail
    | _ => .fail)
   | none => .fail
  | _ => .fail
 | none => .fail
def pCap (kd:TK):AV->Pg Eff
 | .lf .nil=>chk (isSl kd) (ok (.lf (.int .i64 0)) [] [])
 | _ => .fail
def pAppZ (E:Env) (nx:Nat) (m:Bool) (t t' : TypeId):AV->AV->Pg Eff
 | .lf .nil,.lf (.int _ n)=>match lk t E.tt,lk t' E.tt with
  | some i,some i' => match i.kind,i'.kind with
   | .sl e,.int _=>match lk e E.tt with
    | some ie=>match ie.ty,ie.zero with
     | .int k,[.int k' z]=>chk (Nat.beq (kb k) (kb k') && Nat.beq ie.size 1 && !(Nat.beq ie.bytes 0) && ie.el) (guard (z=0) (guard (0 < n) (guard (n.toNat<=lim ie.bytes) (ok (.lf (.own nx)) [(nx,.row e m (.int k) (List.replicate (α := Int) n.toNat 0))] []))))
     | _,_ => .fail
    | none => .fail
   | _,_ => .fail
  | _,_ => .fail
 | .lf (.own T),.lf (.int _ n)=>match lk t E.tt,lk t' E.tt with
  | some i,some i' => match i.kind,i'.kind with
   | .sl e,.int _=>match lk e E.tt with
    | some ie => .obj T fun
     | .row e' m' (.int k2) xs=>match ie.ty,ie.zero with
      | .int k,[.int k' z]=>chk (Nat.beq e' e && Nat.beq (kb k2) (kb k) && Nat.beq (kb k) (kb k') && Nat.beq ie.size 1 && !(Nat.beq ie.bytes 0) && ie.el) (guard (z=0) (guard (0<=n) (guard (List.length (α := Int) xs+n.toNat<=lim ie.bytes) (ok (.lf (.own nx)) [(nx,.row e m' (.int k) (List.append (α := Int) xs (List.replicate (α := Int) n.toNat 0)))] [T]))))
      | _,_ => .fail
     | _ => .fail
    | none => .fail
   | _,_ => .fail
  | _,_ => .fail
 | _,_ => .fail
def intO:Option AV->Option (Option Int)
 | none=>some none
 | some (.lf (.int _ n))=>some (some n)
 | _=>none
def Zl0 (E:Env) (ty:TypeId) (lo hi:Option AV):AV->Pg Eff
 | .lf (.sl t xs)=>match lk ty E.tt with
  | some i=>match i.kind with
   | .sl e=>match lk e E.tt with
    | some ie=>chk (Nat.beq t.size ie.size) (match intO lo,intO hi with
     | some none,some none=>ok (.lf (.sl t xs)) [] []
     | some none,some (some h)=>guard (0<=h) (guard (h<=(xs.length:Int)) (ok (.lf (.sl t (xs.take h.toNat))) [] []))
     | some (some l),some none=>guard (0<=l) (guard (l<=(xs.length:Int)) (ok (.lf (.sl t (xs.drop l.toNat))) [] []))
     | some (some l),some (some h)=>guard (0<=h) (guard (h<=(xs.length:Int)) (guard (0<=l) (guard (l<=h) (ok (.lf (.sl t ((xs.take h.toNat).drop l.toNat))) [] []))))
     | _,_ => .fail)
    | none => .fail
   | _ => .fail
  | none => .fail
 | .lf (.str s)=>match lk ty E.tt with
  | some i=>match i.kind with
   | .str=>match intO lo,intO hi with
    | some none,some none=>ok (.lf (.str (s.extract 0 s.size))) [] []
    | some none,some (some h)=>guard (0<=h) (guard (h<=(s.size:Int)) (ok (.lf (.str (s.extract 0 h.toNat))) [] []))
    | some (some l),some none=>guard (0<=l) (guard (l<=(s.size:Int)) (ok (.lf (.str (s.extract l.toNat s.size))) [] []))
    | some (some l),some (some h)=>guard (0<=l) (guard (l<=h) (guard (h<=(s.size:Int)) (ok (.lf (.str (s.extract l.toNat h.toNat))) [] [])))
    | _,_ => .fail
   | _ => .fail
  | none => .fail
 | _ => .fail
def Zhm (E:Env) (nx:Nat) (ty:TypeId) (lo hi:Option AV):AV->Pg Eff
 | .lf (.own T)=>match lk ty E.tt with
  | some i=>match i.kind with
   | .sl e=>match lk e E.tt with
    | some ie => .obj T fun
     | .row e' m (.int k) xs=>chk (Nat.beq e' e && Nat.beq ie.size 1) (guard (0 < (List.length (α := Int) xs:Int)) (match intO lo,intO hi with
      | some none,some (some h)=>guard (0<=h) (guard (h<=(List.length (α := Int) xs:Int)) (ok (.lf (.own nx)) [(nx,.row e' m (.int k) (List.take (α := Int) h.toNat xs))] [T]))
      | some (some l),some none=>guard (0<=l) (guard (l<=(List.length (α := Int) xs:Int)) (ok (.lf (.sub T l.toNat)) [] []))
      | _,_ => .fail))
     | _ => .fail
    | none => .fail
   | _ => .fail
  | none => .fail
 | v=>Zl0 E ty lo hi v
def Zgc (E:Env) (nx:Nat) (ty:TypeId) (lo hi:Option AV):AV->Pg Eff
 | .lf (.own T) => .obj T fun
  | .row _ _ (.int _) _=>Zhm E nx ty lo hi (.lf (.own T))
  | .row e' m t' xs=>match lk ty E.tt with
   | some i=>match i.kind with
    | .sl e=>match lk e E.tt with
     | some ie=>chk (Nat.beq e' e && Nat.beq ie.size t'.size) (guard (0 < (List.length (α := t'.den) xs:Int)) (match intO lo,intO hi with
      | some none,some (some h)=>guard (0<=h) (guard (h<=(List.length (α := t'.den) xs:Int)) (ok (.lf (.own nx)) [(nx,.row e' m t' (List.take (α := t'.den) h.toNat xs))] [T]))
      | some (some l),some none=>chk (Nat.beq t'.size 1) (guard (0<=l) (guard (l<=(List.length (α := t'.den) xs:Int)) (ok (.lf (.sub T l.toNat)) [] [])))
      | _,_ => .fail))
     | none => .fail
    | _ => .fail
   | none => .fail
  | _ => .fail
 | .lf .nil=>match lk ty E.tt with
  | some i=>match i.kind with
   | .sl e=>match lk e E.tt with
    | some ie=>match intO lo,intO hi with
     | some none,some (some h)=>guard (h=0) (ok (.lf .nil) [] [])
     | _,_ => .fail
    | none => .fail
   | _ => .fail
  | none => .fail
 | v=>Zhm E nx ty lo hi v
def Znx (k:IntKind):List Lf->Bool
 | [.int k' n]=>Nat.beq (kb k') (kb k) && @decide (n=0) (Int.instDecidableEq n 0)
 | _=>false
def Znw:List Lf->Bool
 | [.nil]=>true
 | _=>false
def ZlU (E:Env) (ty:TypeId):AV->Pg Eff
 | .lf (.sub T j)=>match lk ty E.tt with
  | some i=>match i.kind with
   | .sl e=>match lk e E.tt with
    | some ie => .obj T fun
     | .row e' m (.int k) xs=>chk (Nat.beq e' e && Nat.beq ie.size 1 && Znx k ie.zero) (ok (.tup []) [(T,.row e' m (.int k) (List.take (α := Int) j xs++List.replicate (List.length (α := Int) xs - j) 0))] [])
     | .row e' m .raw xs=>chk (Nat.beq e' e && Nat.beq ie.size 1 && Znw ie.zero) (ok (.tup []) [(T,.row e' m .raw (List.take (α := Value) j xs++List.replicate (List.length (α := Value) xs - j) (Value.slice none 0 0)))] [])
     | .row e' false (.sl e3 t3) xs=>chk (Nat.beq e' e && Nat.beq ie.size 1 && Znw ie.zero) (ok (.tup []) [(T,.row e' false (.sl e3 t3) (List.append (α := List t3.den) (List.take (α := List t3.den) j xs) (List.replicate (α := List t3.den) (List.length (α := List t3.den) xs - j) ([]:List t3.den))))] [])
     | _ => .fail
    | none => .fail
   | _ => .fail
  | none => .fail
 | _ => .fail
def pPre (E:Env) (ty:TypeId) (lo hi:Option AV):AV->Pg Eff
 | .lf (.own T)=>match lk ty E.tt with
  | some i=>match i.kind with
   | .sl e=>match lk e E.tt with
    | some ie => .obj T fun
     | .row e' m (.int k) xs=>chk (Nat.beq e' e && Nat.beq ie.size 1) (guard (0 < (List.length (α := Int) xs:Int)) (match intO lo,intO hi with
      | some none,some (some h)=>guard (0<=h) (guard (h<=(List.length (α := Int) xs:Int)) (ok (.lf (.pre T h.toNat)) [] []))
      | _,_ => .fail))
     | _ => .fail
    | none => .fail
   | _ => .fail
  | none => .fail
 | _ => .fail
def Zjo (e:TypeId) (k:IntKind) (x:AV) (K:List Int->Pg Eff):Pg Eff:=match x with
 | .lf (.pre T n) => .obj T fun
  | .row _ _ (.int k') xs=>chk (Nat.beq (kb k') (kb k)) (K (List.take (α := Int) n xs))
  | _ => .fail
 | x=>added true e (.int k) x λ ys _=>K ys
def Zer (e:TypeId) (T j:Nat) (src:AV):Pg Eff := .obj T fun
 | .row e' m (.int k) xs=>chk (Nat.beq e' e) (guard (0 < (List.length (α := Int) xs:Int)) (Zjo e k src λ ys=>ok (.lf (.int .i64 ((List.take (α := Int) (List.length (α := Int) xs - j) ys).length:Int))) [(T,.row e' m (.int k) (List.take (α := Int) j xs++List.take (α := Int) (List.length (α := Int) xs - j) ys++List.drop (α := Int) (j+(List.take (α := Int) (List.length (α := Int) xs - j) ys).length) xs))] []))
 | _ => .fail
def pCopy (E:Env) (ty:TypeId) (x s:AV):Pg Eff:=match lk ty E.tt with
 | some i=>match i.kind with
  | .sl e=>match lk e E.tt with
   | some ie=>chk (Nat.beq ie.size 1) (match x with
    | .lf (.own T)=>Zer e T 0 s
    | .lf (.sub T j)=>Zer e T j s
    | _ => .fail)
   | none => .fail
  | _ => .fail
 | none => .fail
def pNil:AV->Pg Eff
 | .lf (.box T off)=>ok (.lf (.box T off)) [] []
 | .lf (.elt T j sz off)=>ok (.lf (.elt T j sz off)) [] []
 | .lf (.vpt t y off)=>ok (.lf (.vpt t y off)) [] []
 | _ => .fail
noncomputable def pConv (E:Env) (src dst:TypeId):AV->Pg Eff
 | .lf (.int k n)=>chk (lk src E.tt).isSome (match lk dst E.tt with
  | some i=>match i.kind with
   | .int k' => ok (.lf (.int k' (wr k' n))) [] []
   | _ => .fail
  | none => .fail)
 | _ => .fail
noncomputable def ZiI (xs:List Int):ByteArray:=Classical.choose (⟨_,rfl⟩:∃y,y=xs.foldl (λ r n=>r.push (UInt8.ofNat n.toNat)) ByteArray.empty)
theorem Zkr (xs:List Int):ZiI xs=xs.foldl (λ r n=>r.push (UInt8.ofNat n.toNat)) ByteArray.empty:=Classical.choose_spec (⟨_,rfl⟩:∃y,y=xs.foldl (λ r n=>r.push (UInt8.ofNat n.toNat)) ByteArray.empty)
noncomputable def ZlV (E:Env) (src dst:TypeId):AV->Pg Eff
 | .lf (.own T)=>match lk src E.tt,lk dst E.tt with
  | some i,some j=>match i.kind,j.kind with
   | .sl e,.str=>match lk e E.tt with
    | some ie=>match ie.kind with
     | .int .u8 => .obj T fun
      | .row e' m (.int .u8) xs=>guard (0 < (List.length (α := Int) xs:Int)) (ok (.lf (.str (ZiI xs))) [] [])
      | _ => .fail
     | _ => .fail
    | none => .fail
   | _,_ => .fail
  | _,_ => .fail
 | v=>pConv E src dst v
def ZfO (f:Operand->Option AV):List Operand->Option (List (Nat×Nat))
 | []=>some []
 | x :: r=>match f x,ZfO f r with
  | some (.lf (.box T off)),some l=>some ((T,off) :: l)
  | _,_=>none
def pFunc (f:Operand->Option AV) (g:FuncId) (first caps:List Operand):Pg Eff:=match first,ZfO f caps with
 | [],some l=>ok (.lf (.clo g l)) [] []
 | _,_ => .fail
def lfOf (t:Ty) (x:t.den):Lf:=match leaves t x with
 | [l]=>l
 | _ => .undef
def Ty.one:Ty->Bool
 | .pr _ _=>false
 | _=>true
def Zaf:(a b:List LS)->lsd (a++b)->lsd a×lsd b
 | [],_,x=>((),x)
 | _ :: r,b,x=>((x.1,(Zaf r b x.2).1),(Zaf r b x.2).2)
def ZbP:(a b:List LS)->lsd a->lsd b->lsd (a++b)
 | [],_,_,y=>y
 | _ :: r,b,x,y=>(x.1,ZbP r b x.2 y)
def ZeC:(asx:List Ty)->(ins:List ASh)->Option ((rest:List ASh)×(dens asx->lsd (flats rest)->lsd (flats ins)))
 | [],ins=>some ⟨ins,λ _ y=>y⟩
 | a :: asx,.one (.v t) :: ins=>match a.one,Ty.eq? a t,ZeC asx ins with
  | true,some h,some ⟨rest,f⟩=>some ⟨rest,λ x y=>(h.down ▸ x.1,f x.2 y)⟩
  | _,_,_=>none
 | _,_=>none
def Zcs {γ : Type}:(ss:List LS)->List Lf->(lsd ss->List Nat->Pg γ)->Pg γ
 | [],[],K=>K () []
 | .v t :: ss,l :: r,K=>toDen 2 t [l] λ x r' c=>chk r'.isEmpty (Zcs ss r λ y c' => K (x,y) (c++c'))
 | .fn asx t :: ss,.fn asx' t' f :: r,K=>match tysEq? asx' asx,Ty.eq? t' t with
  | some h,some h' => Zcs ss r λ y c=>K ((λ x=>(f (h.down ▸ x)).map λ z=>h'.down ▸ z),y) c
  | _,_ => .fail
 | _,_,_ => .fail
where tysEq? : (a b:List Ty)->Option (PL (b=a))
 | [],[]=>some ⟨rfl⟩
 | x :: a,y :: b=>match Ty.eq? y x,tysEq? a b with
  | some h,some h' => some ⟨by rw[h.down,h'.down]⟩
  | _,_=>none
 | _,_=>none
def Zft {γ : Type}:(ps:List ASh)->List (Nat×Nat)->(lsd (flats ps)->List Nat->List Nat->Pg γ)->Pg γ
 | [],[],K=>K () [] []
 | .ptr true t ss :: ps,(T,0) :: r,K => .obj T fun
  | .box bt _ cells=>chk (Nat.beq bt t) (Zcs ss cells λ x c=>Zft ps r λ y b c' => K (ZbP ss (flats ps) x y) (T :: b) (c++c'))
  | _ => .fail
 | _,_,_ => .fail
def Zj6:(outs:List ASh)->Option ((t:Ty)×(lsd (flats outs)->t.den))
 | [.one (.v t)]=>some ⟨t,λ x=>x.1⟩
 | _=>none
def cloFn {γ : Type} (E:Env) (g:FuncId) (caps:List (Nat×Nat)) (asx:List Ty) (r:Ty) (K:(dens asx->Option r.den)->List Nat->List Nat->Pg γ):Pg γ := match lk g E.con with
 | some c=>match ZeC asx c.ins,Zj6 c.outs with
  | some ⟨rest,f⟩,some ⟨t,o⟩=>match Ty.eq? t r with
   | some h=>chk (r.flat && r.one) (Zft rest caps λ y b l=>K (λ x=>(c.f (f x y)).map λ z=>h.down ▸ (o (c.dec z).1)) b l)
   | none => .fail
  | _,_ => .fail
 | none => .fail
structure Slots where
 back:List Nat
 gone:List Nat
 lent:List Nat
 box:List Nat
def Slots.plus (a b:Slots):Slots:=⟨a.back++b.back,a.gone++b.gone,a.lent++b.lent,a.box++b.box⟩
def argLf {γ : Type} (E:Env):(s:LS)->Lf->(s.den->Slots->Pg γ)->Pg γ
 | .v t,l,K=>toDen 2 t [l] λ x r c=>chk r.isEmpty (K x ⟨[],[],c,[]⟩)
 | .own e m t,.own T,K => .obj T fun
  | .row e' m' t' xs=>chk (Nat.beq e' e && (m == m' || t.flat)) (match Ty.eq? t' t with
   | some h=>K (h.down ▸ xs) ⟨[T],[],[],[]⟩
   | none => .fail)
  | _ => .fail
 | .fn asx r,.fn asx' r' f,K=>match Zcs.tysEq? asx' asx,Ty.eq? r' r with
  | some h,some h' => K (λ x=>(f (h.down ▸ x)).map λ z=>h'.down ▸ z) ⟨[],[],[],[]⟩
  | _,_ => .fail
 | .fn asx r,.clo g caps,K=>cloFn E g caps asx r λ f b l=>K f ⟨[],[],l,b⟩
 | _,_,_ => .fail
def Zk3 {γ : Type} (E:Env):(ss:List LS)->List Lf->(lsd ss->Slots->Pg γ)->Pg γ
 | [],[],K=>K () ⟨[],[],[],[]⟩
 | s :: ss,l :: r,K=>argLf E s l λ x a=>Zk3 E ss r λ y b=>K (x,y) (a.plus b)
 | _,_,_ => .fail
def ZdN {γ : Type}:(ss:List LS)->List Lf->(lsd ss->List Nat->Pg γ)->Pg γ
 | [],[],K=>K () []
 | .v t :: ss,l :: r,K=>toDen 0 t [l] λ x r' c=>chk r'.isEmpty (ZdN ss r λ y c' => K (x,y) c')
 | .own e m t :: ss,.own T :: r,K => .obj T fun
  | .row e' m' t' xs=>chk (Nat.beq e' e && (m == m' || t.flat)) (match Ty.eq? t' t with
   | some h=>ZdN ss r λ y c=>K (h.down ▸ xs,y) (T :: c)
   | none => .fail)
  | _ => .fail
 | _,_,_ => .fail
def args {γ : Type} (E:Env):(ins:List ASh)->List AV->(lsd (flats ins)->Slots->Pg γ)->Pg γ
 | [],[],K=>K () ⟨[],[],[],[]⟩
 | .one s :: ins,.lf l :: r,K=>argLf E s l λ x a=>args E ins r λ y b=>K (x,y) (a.plus b)
 | .agg ss :: ins,.agg ls :: r,K=>Zk3 E ss ls λ x a=>args E ins r λ y b=>K (ZbP ss (flats ins) x y) (a.plus b)
 | .non :: ins,.lf .nil :: r,K=>args E ins r K
 | .eat e m t :: ins,.lf l :: r,K=>argLf E (.own e m t) l λ x a=>args E ins r λ y b=>K (x,y) (Slots.plus ⟨[],a.back++a.gone,a.lent,a.box⟩ b)
 | .ptr ro t ss :: ins,.lf (.box T 0) :: r,K => .obj T fun
  | .box bt ro' cells=>chk (Nat.beq bt t && (ro || !ro')) (match ro with
   | true=>Zcs ss cells λ x c=>args E ins r λ y b=>K (ZbP ss (flats ins) x y) (Slots.plus ⟨[],[],c,[T]⟩ b)
   | false=>ZdN ss cells λ x c=>args E ins r λ y b=>K (ZbP ss (flats ins) x y) (Slots.plus ⟨[T],c,[],[]⟩ b))
  | _ => .fail
 | _,_,_ => .fail
def mkLfs:(ss:List LS)->lsd ss->Nat->List Lf×List (Nat×Ob)×Nat
 | [],_,nx=>([],[],nx)
 | .v t :: ss,x,nx=>match mkLfs ss x.2 nx with
  | (ls,os,n)=>(lfOf t x.1 :: ls,os,n)
 | .own e m t :: ss,x,nx=>match mkLfs ss x.2 (nx+1)with
  | (ls,os,n)=>(.own nx :: ls,(nx,.row e m t x.1) :: os,n)
 | .fn asx r :: ss,x,nx=>match mkLfs ss x.2 nx with
  | (ls,os,n)=>(.fn asx r x.1 :: ls,os,n)
def ZdF:(outs:List ASh)->lsd (flats outs)->Nat->List (Bool×List Lf)×List (Nat×Ob)×Nat
 | [],_,nx=>([],[],nx)
 | .one s :: r,x,nx=>match mkLfs [s] (x.1,()) nx with
  | (ls,os,n)=>match ZdF r x.2 n with
   | (vs,os', n')=>((false,ls) :: vs,os++os', n')
 | .agg ss :: r,x,nx=>match mkLfs ss (Zaf ss (flats r) x).1 nx with
  | (ls,os,n)=>match ZdF r (Zaf ss (flats r) x).2 n with
   | (vs,os', n')=>((true,ls) :: vs,os++os', n')
 | .eat e m t :: r,x,nx=>match mkLfs [.own e m t] (x.1,()) nx with
  | (ls,os,n)=>match ZdF r x.2 n with
   | (vs,os', n')=>((false,ls) :: vs,os++os', n')
 | .non :: r,x,nx=>match ZdF r x nx with
  | (vs,os', n')=>((false,[.nil]) :: vs,os', n')
 | .ptr ro t ss :: r,x,nx=>match mkLfs ss (Zaf ss (flats r) x).1 (nx+1)with
  | (ls,os,n)=>match ZdF r (Zaf ss (flats r) x).2 n with
   | (vs,os', n')=>((false,[.box nx 0]) :: vs,(nx,.box t ro ls) :: os++os', n')
def ZcY:(s:LS)->List Nat->lsd s.back->List (Nat×Ob)×List Nat
 | .own e m t,T :: Ts,x=>([(T,.row e m t x.1)],Ts)
 | .own _ _ _,[],_=>([],[])
 | .v _,Ts,_=>([],Ts)
 | .fn _ _,Ts,_=>([],Ts)
def Zcl:(ss:List LS)->List Nat->lsd (backs ss)->List (Nat×Ob)×List Nat
 | [],Ts,_=>([],Ts)
 | s :: ss,Ts,x=>match ZcY s Ts (Zaf s.back (backs ss) x).1 with
  | (os,Ts')=>match Zcl ss Ts' (Zaf s.back (backs ss) x).2 with
   | (os', r)=>(os++os', r)
def mkIos:(ins:List ASh)->List Nat->lsd (ios ins)->Nat->List (Nat×Ob)×Nat
 | [],_,_,nx=>([],nx)
 | .one s :: r,Ts,x,nx=>match ZcY s Ts (Zaf s.back (ios r) x).1 with
  | (os,Ts')=>match mkIos r Ts' (Zaf s.back (ios r) x).2 nx with
   | (os', n)=>(os++os', n)
 | .agg ss :: r,Ts,x,nx=>match Zcl ss Ts (Zaf (backs ss) (ios r) x).1 with
  | (os,Ts')=>match mkIos r Ts' (Zaf (backs ss) (ios r) x).2 nx with
   | (os', n)=>(os++os', n)
 | .ptr true _ ss :: r,Ts,x,nx=>mkIos r Ts x nx
 | .eat _ _ _ :: r,Ts,x,nx=>mkIos r Ts x nx
 | .non :: r,Ts,x,nx=>mkIos r Ts x nx
 | .ptr false t ss :: r,[],x,nx=>([],nx)
 | .ptr false t ss :: r,T :: Ts,x,nx=>match mkLfs ss (Zaf ss (ios r) x).1 nx with
  | (ls,os,n)=>match mkIos r Ts (Zaf ss (ios r) x).2 n with
   | (os', n')=>((T,.box t false ls) :: os++os', n')
def Zci:List LS->Bool
 | []=>false
 | .v t :: r => !t.flat || Zci r
 | .own _ m t :: r=>(!m && !t.flat) || Zci r
 | .fn _ _ :: r=>Zci r
def outAV:List (Bool×List Lf)->AV
 | [(false,[l])] => .lf l
 | [(true,ls)] => .agg ls
 | vs => .tup vs
def noFn:List LS->Bool
 | []=>true
 | .fn _ _ :: _=>false
 | _ :: r=>noFn r
def noRo:List ASh->Bool
 | []=>true
 | .ptr true _ _ :: _=>false
 | _ :: r=>noRo r
def apart (a b:List Nat):Bool:=a.all λ T => !(b.contains T)
def pCon (E:Env) (nx:Nat) (c:Con) (avs:List AV):Pg Eff :=
 args E c.ins avs λ x s=>chk (nodup (s.back++s.gone) && apart s.lent (s.back++s.gone) && apart s.box (s.back++s.gone) && noFn (flats c.outs) && noFn (ios c.ins) && noRo c.outs && (s.lent.isEmpty || (!(Zci (flats c.outs)) && !(Zci (ios c.ins))))) (.call (c.f x) λ y =>
  match mkIos c.ins s.back (c.dec y).2 nx with
  | (os,n)=>match ZdF c.outs (c.dec y).1 n with
   | (vs,os', _)=>ok (outAV vs) (os++os') s.gone)
def Zla:List (Nat×Nat)->List AV
 | []=>[]
 | (T,o) :: r => .lf (.box T o) :: Zla r
def AV.isLf:AV->Bool
 | .lf _=>true
 | _=>false
def ZjQ {γ : Type}:(asx:List Ty)->List AV->(dens asx->Pg γ)->Pg γ
 | [],[],K=>K ()
 | t :: asx,v :: r,K=>match cellsOf v with
  | some ls=>chk (v.isLf || !t.one) (toDen 2 t ls λ x r' _=>chk r'.isEmpty (ZjQ asx r λ y=>K (x,y)))
  | none => .fail
 | _,_,_ => .fail
def pCall (E:Env) (nx:Nat) (avs:List AV):AV->Pg Eff
 | .lf (.clo g caps)=>match lk g E.con with
  | some c=>pCon E nx c (avs++Zla caps)
  | none => .fail
 | .lf (.fn asx r f)=>chk (r.one && r.flat) (ZjQ asx avs λ x => .call (f x) λ y=>ok (.lf (lfOf r y)) [] [])
 | _ => .fail
def evs (f:Operand->Option AV):List Operand->Option (List AV)
 | []=>some []
 | x :: r=>match f x,evs f r with
  | some v,some vs=>some (v :: vs)
  | _,_=>none
def evo (f:Operand->Option AV):Option Operand->Option (Option AV)
 | none=>some none
 | some x=>match f x with
  | some v=>some (some v)
  | none=>none
def on1 (f:Operand->Option AV) (x:Operand) (g:AV->Pg Eff):Pg Eff:=match f x with
 | some v=>g v
 | none => .fail
def on2 (f:Operand->Option AV) (x y:Operand) (g:AV->AV->Pg Eff):Pg Eff:=match f x,f y with
 | some v,some u=>g v u
 | _,_ => .fail
def Zgh (E:Env) (d:Option Tmp):Bool:=match d with
 | some d => !(E.rows.contains d)
 | none=>true
def hinted (E:Env):Option Tmp->Bool
 | some d=>E.nils.contains d
 | none=>false
def Zcj:Ty->List Ty
 | .pr a b=>Zcj a++Zcj b
 | t=>[t]
def Zbt:List Ty->List Lf->Nat->List Lf×List (Nat×Ob)
 | .sl e t :: ts,.nil :: ls,nx=>match Zbt ts ls (nx+1)with
  | (ls', os)=>(.own nx :: ls', (nx,.row e true t []) :: os)
 | _ :: ts,l :: ls,nx=>match Zbt ts ls nx with
  | (ls', os)=>(l :: ls', os)
 | _,ls,_=>(ls,[])
def pMax:AV->AV->Pg Eff
 | .lf (.int k a),.lf (.int k' b)=>chk (Nat.beq (kb k) (kb k')) (ok (.lf (.int k (if b > a then b else a))) [] [])
 | _,_ => .fail
def pMin:AV->AV->Pg Eff
 | .lf (.int k a),.lf (.int k' b)=>chk (Nat.beq (kb k) (kb k')) (ok (.lf (.int k (if b < a then b else a))) [] [])
 | _,_ => .fail
def pMove (E:Env) (nx:Nat) (o:Oper):Option AV->Pg Eff
 | some (.lf .nil)=>match o.dst with
  | some d=>bif E.nils.contains d then(match lk o.type E.tt with
   | some i=>match i.kind with
    | .sl e=>match lk e E.tt with
     | some ie=>ok (.lf (.own nx)) [(nx,.row e (Zgh E o.dst) ie.ty [])] []
     | none => .fail
    | _ => .fail
   | none => .fail)else ok (.lf .nil) [] []
  | none=>ok (.lf .nil) [] []
 | some (.lf (.cnd n p d))=>ok (.lf (bif hinted E o.dst then ZcK (bval n p d)else .cnd n p d)) [] []
 | some v=>ok v [] []
 | none => .fail
def Pg.mapE (g:Eff->Eff):Pg Eff->Pg Eff
 | .fail => .fail
 | .ret e => .ret (g e)
 | .obj T f => .obj T λ o=>(f o).mapE g
 | .test p d x y => .test p d (x.mapE g) (y.mapE g)
 | .call v f => .call v λ a=>(f a).mapE g
def nilE (ty:Ty) (nx:Nat) (e:Eff):Eff:=match e with
 | ⟨.agg cells,[],[]⟩=>match Zbt (Zcj ty) cells nx with
  | (ls,os)=>⟨.agg ls,os,[]⟩
 | e=>e
def Zf7:(ins:List ASh)->Option ((t:Ty)×(a:Ty)×(t.den->a.den->lsd (flats ins)))
 | [.agg [.v t],.one (.v a)]=>some ⟨t,a,λ x y=>(x,(y,()))⟩
 | _=>none
def pMeth (E:Env) (g:FuncId):AV->Pg Eff
 | .agg [l]=>match lk g E.con with
  | some c=>match Zf7 c.ins,Zj6 c.outs with
   | some ⟨t,a,f⟩,some ⟨r,o⟩=>chk (a.one && r.flat && r.one) (toDen 2 t [l] λ x r' cl=>chk r'.isEmpty (chk cl.isEmpty (ok (.lf (.fn [a] r λ y=>(c.f (f x y.1)).map λ z=>o (c.dec z).1)) [] [])))
   | _,_ => .fail
  | none => .fail
 | _ => .fail
def pFn (E:Env) (f:Operand->Option AV) (g:FuncId):List Operand->List Operand->Pg Eff
 | [x],[]=>on1 f x (pMeth E g)
 | fs,cs=>pFunc f g fs cs
noncomputable def opPg (E:Env) (nx:Nat) (f:Operand->Option AV) (o:Oper):Pg Eff:=match o.op with
 | .move x=>pMove E nx o (f x)
 | .assign x=>pMove E nx o (f x)
 | .pick c a b=>pPick f c a b
 | .alloc t=>match lk t E.tt with
  | some i=>chk (Nat.beq i.zero.length i.size && !(Nat.beq i.size 0)) (bif hinted E o.dst then(match Zbt (Zcj i.ty) i.zero (nx+1)with
   | (ls,os)=>ok (.lf (.box nx 0)) (os++[(nx,.box t false ls)]) [])else ok (.lf (.box nx 0)) [(nx,.box t false i.zero)] [])
  | none => .fail
 | .box t x=>on1 f x λ v=>match lk t E.tt,cellsOf v with
  | some i,some ls=>chk (Nat.beq ls.length i.size) (ok (.lf (.box nx 0)) [(nx,.box t false ls)] [])
  | _,_ => .fail
 | .build t parts=>bif hinted E o.dst then(match lk t E.tt with
  | some i=>(Zie E f t parts.toList).mapE (nilE i.ty nx)
  | none => .fail)else Zie E f t parts.toList
 | .buildSlice t n parts=>Zdu E nx f (Zgh E o.dst) t n parts.toList
 | .load t x=>bif hinted E o.dst then on1 f x (ZlY E nx t (pk E o.dst))else on1 f x (Zii E nx t (pk E o.dst))
 | .store t a x=>on2 f a x (Zje E t (pkO E a))
 | .nilCheck x=>on1 f x pNil
 | .binOp op t x y _=>on2 f x y (pBinN E t op)
 | .unOp op _ x=>on1 f x (pUn op)
 | .convert src dst x=>on1 f x (ZlV E src dst)
 | .makeFunc (.func g) first caps=>pFn E f g first.toList caps.toList
 | .makeSlice t l c=>bif hinted E o.dst then on2 f l c (ZlZ E nx t)else on2 f l c (pMake E nx (Zgh E o.dst) t)
 | .slice t x lo hi none=>on1 f x λ v=>match evo f lo,evo f hi with
  | some l,some h=>bif hinted E o.dst then pPre E t l h v else Zgc E nx t l h v
  | _,_ => .fail
 | .fieldAddr t x n=>on1 f x λ v=>Ze9 E t v n
 | .field t x n=>on1 f x λ v=>ZlW E t v n
 | .indexAddr t x i=>on2 f x i (Zfa E t)
 | .index t x i=>on2 f x i (Zja E t)
 | .extract x n=>on1 f x (Zhk n)
 | .call c=>match c.callee with
  | .builtin .len=>match c.args.toList,c.argTypes.toList with
   | [x],[t]=>match lk t E.tt with
    | some i=>on1 f x (pLen i.kind)
    | none => .fail
   | _,_ => .fail
  | .builtin .append=>match c.args.toList,c.argTypes.toList with
   | [x,y],[t,t']=>bif Nat.beq t t' then on2 f x y (Zi4 E nx (Zgh E o.dst) t)else on2 f x y (pAppZ E nx (Zgh E o.dst) t t')
   | _,_ => .fail
  | .builtin .cap=>match c.args.toList,c.argTypes.toList with
   | [x],[t]=>match lk t E.tt with
    | some i=>on1 f x (pCap i.kind)
    | none => .fail
   | _,_ => .fail
  | .builtin .max=>match c.args.toList with
   | [x,y]=>on2 f x y pMax
   | _ => .fail
  | .builtin .min=>match c.args.toList with
   | [x,y]=>on2 f x y pMin
   | _ => .fail
  | .builtin .copy=>match c.args.toList,c.argTypes.toList with
   | [x,y],[t,_]=>on2 f x y (pCopy E t)
   | _,_ => .fail
  | .builtin .clear=>match c.args.toList,c.argTypes.toList with
   | [x],[t]=>on1 f x (ZlU E t)
   | _,_ => .fail
  | .value g=>match evs f c.args.toList with
   | some vs=>on1 f g (pCall E nx vs)
   | none => .fail
  | _ => .fail
 | _ => .fail
def frzLf (add ob:List (Nat×Ob)):Lf->Option (Lf×List Nat)
 | .own T=>match lk T (add++ob)with
  | some (.row _ _ t xs)=>some (.sl t xs,[T])
  | _=>none
 | l=>some (l,[])
def ZdE (add ob:List (Nat×Ob)):List Lf->Option (List Lf×List Nat)
 | []=>some ([],[])
 | l :: r=>match frzLf add ob l,ZdE add ob r with
  | some (l', a),some (r', b)=>some (l' :: r', a++b)
  | _,_=>none
def Zez (add ob:List (Nat×Ob)):List (Bool×List Lf)->Option (List (Bool×List Lf)×List Nat)
 | []=>some ([],[])
 | (b,ls) :: r=>match ZdE add ob ls,Zez add ob r with
  | some (l', a),some (r', c)=>some ((b,l') :: r', a++c)
  | _,_=>none
def frzAV (add ob:List (Nat×Ob)):AV->Option (AV×List Nat)
 | .lf l=>match frzLf add ob l with
  | some (l', a)=>some (.lf l', a)
  | none=>none
 | .agg ls=>match ZdE add ob ls with
  | some (l', a)=>some (.agg l', a)
  | none=>none
 | .tup vs=>match Zez add ob vs with
  | some (l', a)=>some (.tup l', a)
  | none=>none
def St.app (σ : St) (dst:Option Tmp) (e:Eff) (n:Nat):St :=
  { fr:=match dst with
      | some d=>pt d e.v σ.fr
      | none => σ.fr
    ob:=pts e.add (rms e.del σ.ob),nx := σ.nx+n }
def St.skip (σ : St) (dst:Option Tmp):St :=
  { σ with fr:=match dst with
      | some d=>pt d (.lf .undef) σ.fr
      | none => σ.fr }
def keys {α : Type}:List (Nat × α)->List Nat
 | []=>[]
 | (n,_) :: r=>n :: keys r
noncomputable def opD (E:Env) (nx:Nat) (dec:List (Nat×Bool)) (f:Operand->Option AV) (o:Oper):Pg Eff:=match o.op with
 | .pick (.tmp t) a b=>match lk t dec with
  | some b' => okO (bif b' then f a else f b)
  | none=>opPg E nx f o
 | _=>opPg E nx f o
def shE (ob:List (Nat×Ob)) (e:Eff):Option (Eff×List Nat):=match e.v with
 | .lf (.own T)=>match lk T (e.add++rms e.del ob)with
  | some (.row et true (.sl e' t) xs)=>some (⟨e.v,(T,.row et false (.sl e' t) xs) :: rms [T] e.add,e.del++[T]⟩,[T])
  | _=>none
 | _=>none
def frzE (E:Env) (ob:List (Nat×Ob)) (dst:Option Tmp) (e:Eff):Option (Eff×List Nat):=match dst with
 | none=>some (e,[])
 | some d=>bif E.frz.contains d then(bif E.rows.contains d then shE ob e else match frzAV e.add (rms e.del ob) e.v with
  | some (v,Ts)=>some (⟨v,rms Ts e.add,e.del++Ts⟩,Ts)
  | none=>none)else some (e,[])
def newOk (σ : St) (e:Eff) (nd:List Nat) (n:Nat):Bool :=
 nodup (keys e.add) && (keys e.add).all (λ T=>(nd.contains T && (lk T σ.ob).isSome) || (Nat.ble σ.nx T && Nat.blt T (σ.nx+n)))
abbrev Trc:=List Nat×List Nat
section
variable {β : Type}
def dstOk (E:Env):Option Tmp->Bool
 | some d=>Nat.blt d E.n
 | none=>true
def rmD (d:Option Tmp) (dec:List (Nat×Bool)):List (Nat×Bool):=match d with
 | some d=>rm d dec
 | none=>dec
noncomputable def goOp (E:Env) (σ : St) (dec:List (Nat×Bool)) (o:Oper) (k:St->Trc->Option β):Option β :=
 (opD E σ.nx dec (ev σ.fr) o).run σ.ob (λ e nd=>match frzE E σ.ob o.dst e with
  | some (e', nd')=>bif newOk σ e (nd++nd') e.add.length && dstOk E o.dst then k (σ.app o.dst e' e.add.length) (nd++nd', keys e'.add++e'.del)else none
  | none=>none) []
def skOp (E:Env) (o:Oper) (x:Option β):Option β := bif dstOk E o.dst then x else none
def gtmp (all:List Oper) (j:Nat):Option Tmp:=match all[j]? with
 | some o=>o.dst
 | none=>none
noncomputable def Zb8 (E:Env) (all:List Oper) (K:St->List Trc->Option β):List Oper->St->List (Nat×Bool)->List Trc->Option β
 | [],σ,_,tr=>K σ tr.reverse
 | o :: r,σ,dec,tr=>match o.guard with
  | none=>goOp E σ dec o λ s t=>Zb8 E all K r s (rmD o.dst dec) (t :: tr)
  | some (j,want)=>match gtmp all j with
   | none=>none
   | some g=>match lk g dec with
    | some b=>bif b == want then goOp E σ dec o λ s t=>Zb8 E all K r s (rmD o.dst dec) (t :: tr)else skOp E o (Zb8 E all K r (σ.skip o.dst) (rmD o.dst dec) (([],[]) :: tr))
    | none=>match lk g σ.fr with
     | some (.lf (.cnd n p d)) => @ite _ p d
      (bif !n == want then goOp E σ ((g,!n) :: dec) o λ s t=>Zb8 E all K r s (rmD o.dst ((g,!n) :: dec)) (t :: tr)else skOp E o (Zb8 E all K r (σ.skip o.dst) (rmD o.dst ((g,!n) :: dec)) (([],[]) :: tr)))
      (bif n == want then goOp E σ ((g,n) :: dec) o λ s t=>Zb8 E all K r s (rmD o.dst ((g,n) :: dec)) (t :: tr)else skOp E o (Zb8 E all K r (σ.skip o.dst) (rmD o.dst ((g,n) :: dec)) (([],[]) :: tr)))
     | some (.lf .undef)=>skOp E o (Zb8 E all K r (σ.skip o.dst) (rmD o.dst dec) (([],[]) :: tr))
     | _=>none
end
def free2 (a b:Trc):Bool:=a.2.all (λ T => !(b.1.contains T) && !(b.2.contains T)) && a.1.all (λ T => !(b.2.contains T))
def Zio (ops:Array Oper) (B:Nat) (a:Oper) (ta:Trc) (i:Nat) (b:Oper) (tb:Trc):Bool:=B.testBit i || (a.apart ops b && free2 ta tb)
def Zhp (ops:Array Oper) (B:Nat) (b:Oper) (tb:Trc):Nat->List Oper->List Trc->Bool
 | i,a :: r,ta :: q=>Zio ops B a ta i b tb && Zhp ops B b tb (i+1) r q
 | _,_,_=>true
def noSel:Op->Bool
 | .select _ _=>false
 | _=>true
def ZdL (acc:List Nat):List Edge->Nat
 | []=>0
 | e :: r=>(bif Region.binds .any e then 2 ^ e.on ||| acc.getD e.on 0 else 0) ||| ZdL acc r
def befs:List Oper->List Nat->List Nat
 | [],acc=>acc
 | o :: r,acc=>befs r (acc++[ZdL acc o.after.toList])
def ZhK (ops:Array Oper) (l0:List Oper) (t0:List Trc):Nat->List Oper->List Trc->List Nat->Bool
 | _,[],[],[]=>true
 | j,b :: r,tb :: q,m :: ms=>b.after.all (λ e => !Region.binds .any e || Nat.blt e.on j) && noSel b.op && Zhp ops m b tb 0 (l0.take j) (t0.take j) && ZhK ops l0 t0 (j+1) r q ms
 | _,_,_,_=>false
def bern (ops:Array Oper) (tr:List Trc):Bool:=ZhK ops ops.toList tr 0 ops.toList tr (befs ops.toList [])
def ZnG:Lf->List Nat
 | .own T=>[T]
 | .sub T _=>[T]
 | .pre T _=>[T]
 | .box T _=>[T]
 | .elt T _ _ _=>[T]
 | .clo _ caps=>keys caps
 | _=>[]
def Zfc:List Lf->List Nat
 | []=>[]
 | l :: r=>ZnG l++Zfc r
def Zmu:List (Bool×List Lf)->List Nat
 | []=>[]
 | (_,ls) :: r=>Zfc ls++Zmu r
def Zph:AV->List Nat
 | .lf l=>ZnG l
 | .agg ls=>Zfc ls
 | .tup vs=>Zmu vs
def Zkj:List (Nat×AV)->List Nat
 | []=>[]
 | (_,v) :: r=>Zph v++Zkj r
def vals:List (Nat×Nat)->List Nat
 | []=>[]
 | (_,n) :: r=>n :: vals r
def reach (ob:List (Nat×Ob)):Nat->List Nat->List Nat->List Nat
 | 0,_,seen=>seen
 | _+1,[],seen=>seen
 | n+1,T :: r,seen=>bif seen.contains T then reach ob n r seen else match lk T ob with
  | some (.box _ _ cells)=>reach ob n (r++Zfc cells) (seen++[T])
  | some (.row _ _ _ _)=>reach ob n r (seen++[T])
  | some (.hole _ _ _ hl)=>reach ob n (r++vals hl) (seen++[T])
  | none=>reach ob n r seen
def posOf (T:Nat):List Nat->Nat->Option Nat
 | [],_=>none
 | U :: r,i=>bif Nat.beq T U then some i else posOf T r (i+1)
def Zhu (s:List Nat):List (Nat×Nat)->Option (List (Nat×Nat))
 | []=>some []
 | (T,o) :: r=>match posOf T s 0,Zhu s r with
  | some i,some l=>some ((i,o) :: l)
  | _,_=>none
def renLf (s:List Nat):Lf->Lf
 | .own T=>match posOf T s 0 with
  | some i => .own i
  | none => .top
 | .sub T j=>match posOf T s 0 with
  | some i => .sub i j
  | none => .top
 | .pre T j=>match posOf T s 0 with
  | some i => .pre i j
  | none => .top
 | .box T o=>match posOf T s 0 with
  | some i => .box i o
  | none => .top
 | .elt T j z o=>match posOf T s 0 with
  | some i => .elt i j z o
  | none => .top
 | .clo g caps=>match Zhu s caps with
  | some c => .clo g c
  | none => .top
 | l=>l
def Zgg (s:List Nat):List Lf->List Lf
 | []=>[]
 | l :: r=>renLf s l :: Zgg s r
def Zma (s:List Nat):List (Bool×List Lf)->List (Bool×List Lf)
 | []=>[]
 | (b,ls) :: r=>(b,Zgg s ls) :: Zma s r
def renAV (s:List Nat):AV->AV
 | .lf l => .lf (renLf s l)
 | .agg ls => .agg (Zgg s ls)
 | .tup vs => .tup (Zma s vs)
def renHs (s:List Nat):List (Nat×Nat)->Option (List (Nat×Nat))
 | []=>some []
 | (j,n) :: r=>match posOf n s 0,renHs s r with
  | some i,some l=>some ((j,i) :: l)
  | _,_=>none
def renOb (s:List Nat):Ob->Option Ob
 | .box t ro cells=>some (.box t ro (Zgg s cells))
 | .row e m t xs=>some (.row e m t xs)
 | .hole e t xs hl=>match renHs s hl with
  | some l=>some (.hole e t xs l)
  | none=>none
def keep (fr:List (Nat×AV)):List Nat->List (Nat×AV)
 | []=>[]
 | t :: r=>match lk t fr with
  | some v=>(t,v) :: keep fr r
  | none=>keep fr r
def renFr (s:List Nat):List (Nat×AV)->List (Nat×AV)
 | []=>[]
 | (t,v) :: r=>(t,renAV s v) :: renFr s r
def Zc7 (s:List Nat) (ob:List (Nat×Ob)):List Nat->Nat->List (Nat×Ob)
 | [],_=>[]
 | T :: r,i=>match (lk T ob).bind (renOb s)with
  | some o=>(i,o) :: Zc7 s ob r (i+1)
  | none=>Zc7 s ob r (i+1)
def Zjf (ob:List (Nat×Ob)):List Nat->List Nat
 | []=>[]
 | T :: r=>match lk T ob with
  | some (.box _ _ cells)=>Zfc cells++Zjf ob r
  | _=>Zjf ob r
def Zgs (lv:List Nat) (T:Nat) (e e' : TypeId) (t:Ty):List (Nat×Nat)->List (List t.den)->List (Nat×Ob)->List (Nat×Ob)
 | [],xs,ob=>pts [(T,.row e true (.sl e' t) xs)] (rms [] ob)
 | (j,n) :: r,xs,ob=>match lk n ob with
  | some (.row e2 true t2 ys)=>match Ty.eq? t2 t with
   | some h=>bif Nat.beq e2 e' && !(Nat.beq n T) && !(nf e') && !(lv.contains n)then Zgs lv T e e' t r (List.set (α := List t.den) xs j (h.down ▸ ys)) (pts [(T,.hole e (.sl e' t) (List.set (α := List t.den) xs j (h.down ▸ ys)) r)] (rms [n] ob))else ob
   | none=>ob
  | _=>ob
def Ze0 (lv:List Nat):List Nat->List (Nat×Ob)->List (Nat×Ob)
 | [],ob=>ob
 | T :: r,ob=>match lk T ob with
  | some (.hole e (.sl e' t) xs hl)=>Ze0 lv r (Zgs lv T e e' t hl xs ob)
  | _=>Ze0 lv r ob
def St.close (σ : St) (live:List Nat):St:={ σ with ob:=Ze0 (Zkj (keep σ.fr live)) (keys σ.ob) σ.ob }
def St.norm (σ : St) (pin:Nat) (live:List Nat):St :=
 let fr:=keep σ.fr live
 let s:=reach σ.ob 100000 (Zjf σ.ob (List.range pin)++Zkj fr) (List.range pin)
 { fr:=renFr s fr,ob:=Zc7 s σ.ob s 0,nx:=s.length }
def shKs:List Nat->List (Nat×Ob)->List (Nat×Ob)
 | [],ob=>ob
 | T :: r,ob=>match lk T ob with
  | some (.row et true (.sl e' t) xs)=>shKs r (pts [(T,.row et false (.sl e' t) xs)] ob)
  | _=>shKs r ob
def St.sh (σ : St):St:={ σ with ob:=shKs (keys σ.ob) σ.ob }
def fzKs:List Nat->List (Nat×Ob)->List (Nat×Ob)
 | [],ob=>ob
 | U :: r,ob=>match lk U ob with
  | some (.box e f ls)=>match ZdE [] ob ls with
   | some (ls', Ts)=>bif lfsOk ls' && !Ts.contains U then fzKs r (pts [(U,.box e f ls')] (rms Ts ob))else fzKs r ob
   | none=>fzKs r ob
  | _=>fzKs r ob
def St.fz (σ : St):St:={ σ with ob:=fzKs (keys σ.ob) σ.ob }
def nrm (E:Env) (id:Option Nat) (σ : St):St:=match id with
 | some i=>match lk i E.live with
  | some l=>bif E.rows.contains (2000000+i)then((σ.close l).norm E.pin l).fz else bif E.rows.contains (1000000+i)then((σ.close l).norm E.pin l).sh else(σ.close l).norm E.pin l
  | none => σ
 | none => σ
def rid:Code->Option Nat
 | .region id _ _=>some id
 | .seq a b=>match rid a with
  | some i=>some i
  | none=>rid b
 | .block _ c=>rid c
 | .loop c=>rid c
 | .cond _ a b=>match rid a with
  | some i=>some i
  | none=>rid b
 | _=>none
inductive Ex where
 | normal
 | exit (id:Nat)
 | ret
def iter (f:St->Option (Ex×St)):Nat->St->Option (Ex×St)
 | 0,_=>none
 | n+1,σ => match f σ with
  | some (.normal,s)=>iter f n s
  | r=>r
open Classical in
noncomputable def loopR (f:St->Option (Ex×St)) (σ : St):Option (Ex×St):=if h:∃n,(iter f n σ).isSome=true then iter f (Classical.choose h) σ else none
def seqK {β : Type} (k:St->Option β) (K:Ex->St->Option β):Ex->St->Option β
 | .normal,s=>k s
 | e,s=>K e s
def blkK {β : Type} (id:Nat) (K:Ex->St->Option β):Ex->St->Option β
 | .exit i,s=>bif Nat.beq i id then K .normal s else K (.exit i) s
 | e,s=>K e s
def backK (E:Env) (id:Option Nat):Ex->St->Option (Ex×St)
 | .normal,s=>some (.normal,nrm E id s)
 | e,s=>some (e,s)
def openR {β : Type}:List (Operand×Operand)->St->(St->Option β)->Option β
 | [],σ,k=>k σ
 | (x,i) :: r,σ,k=>match ev σ.fr x,ev σ.fr i with
  | some (.lf (.own T)),some (.lf (.int _ j))=>(ZlR σ.nx T j).run σ.ob (λ add _=>openR r { σ with ob:=pts add (rms [] σ.ob),nx := σ.nx+1 } k) []
  | _,_=>none
def openH {β : Type} (E:Env) (id:Nat) (σ : St) (k:St->Option β):Option β := match lk id E.opn with
 | some l=>openR l σ k
 | none=>k σ
noncomputable def denC (E:Env):Code->{β : Type}->St->(Ex->St->Option β)->Option β
 | .skip,_,σ,K=>K .normal σ
 | .region id ops draw,_,σ,K=>openH E id (nrm E (some id) σ) λ σ => Zb8 E ops.toList (λ s tr=>bif draw then(bif bern ops tr then K .normal s else none)else K .normal s) ops.toList σ [] []
 | .seq a b,_,σ,K=>denC E a σ (seqK (λ s=>denC E b s K) K)
 | .cond c x y,_,σ,K=>match ev σ.fr c with
  | some (.lf (.cnd n p d)) => @ite _ p d (bif n then denC E y σ K else denC E x σ K) (bif n then denC E x σ K else denC E y σ K)
  | _=>none
 | .block id c,_,σ,K=>denC E c σ (blkK id K)
 | .loop c,_,σ,K=>(loopR (λ s=>denC E c s (backK E (rid c))) (nrm E (rid c) σ)).bind λ p=>K p.1 p.2
 | .exit id,_,σ,K=>K (.exit id) σ
 | .ret,_,σ,K=>K .ret σ
 | _,_,_,_=>none
structure Fn where
 body:Code
 res:List ResultVar
 ins:List ASh
 outs:List ASh
section
variable {γ : Type}
def resPg (E:Env) (fr:List (Nat×AV)):List ResultVar->(List AV->Pg γ)->Pg γ
 | [],K=>K []
 | .tmp t :: r,K=>match lk t fr with
  | some v=>resPg E fr r λ vs=>K (v :: vs)
  | none => .fail
 | .cell a t :: r,K=>match lk a fr,lk t E.tt with
  | some (.lf (.box T off)),some i => .obj T fun
   | .box _ _ cells=>match i.kind with
    | .st _=>chk (Nat.beq ((cells.drop off).take i.size).length i.size) (resPg E fr r λ vs=>K (.agg ((cells.drop off).take i.size) :: vs))
    | _=>match (cells.drop off).take i.size with
     | [l]=>resPg E fr r λ vs=>K (.lf l :: vs)
     | _ => .fail
   | _ => .fail
  | _,_ => .fail
def lfDen:(s:LS)->Lf->(s.den->List Nat->Pg γ)->Pg γ
 | .v t,l,K=>toDen 0 t [l] λ x r c=>chk r.isEmpty (K x c)
 | .own e m t,.own T,K => .obj T fun
  | .row e' m' t' xs=>chk (Nat.beq e' e && (m == m' || t.flat)) (match Ty.eq? t' t with
   | some h=>K (h.down ▸ xs) [T]
   | none => .fail)
  | _ => .fail
 | .own e m t,.nil,K=>K ([]:List t.den) []
 | _,_,_ => .fail
def Zh8:(ss:List LS)->List Lf->(lsd ss->List Nat->Pg γ)->Pg γ
 | [],[],K=>K () []
 | s :: ss,l :: r,K=>lfDen s l λ x c=>Zh8 ss r λ y c' => K (x,y) (c++c')
 | _,_,_ => .fail
def ZgN:(outs:List ASh)->List AV->(lsd (flats outs)->List Nat->Pg γ)->Pg γ
 | [],[],K=>K () []
 | .one s :: outs,.lf l :: r,K=>lfDen s l λ x c=>ZgN outs r λ y c' => K (x,y) (c++c')
 | .agg ss :: outs,.agg ls :: r,K=>Zh8 ss ls λ x c=>ZgN outs r λ y c' => K (ZbP ss (flats outs) x y) (c++c')
 | .ptr false t ss :: outs,.lf (.box T 0) :: r,K => .obj T fun
  | .box bt false cells=>chk (Nat.beq bt t) (Zh8 ss cells λ x c=>ZgN outs r λ y c' => K (ZbP ss (flats outs) x y) (T :: c++c'))
  | _ => .fail
 | _,_,_ => .fail
def Zg0:(s:LS)->List Nat->(lsd s.back->List Nat->List Nat->Pg γ)->Pg γ
 | .own e m t,T :: Ts,K => .obj T fun
  | .row e' m' t' xs=>chk (Nat.beq e' e && (m == m' || t.flat)) (match Ty.eq? t' t with
   | some h=>K (h.down ▸ xs,()) Ts [T]
   | none => .fail)
  | _ => .fail
 | .v _,Ts,K=>K () Ts []
 | .fn _ _,Ts,K=>K () Ts []
 | _,_,_ => .fail
def Zg1:(ss:List LS)->List Nat->(lsd (backs ss)->List Nat->List Nat->Pg γ)->Pg γ
 | [],Ts,K=>K () Ts []
 | s :: ss,Ts,K=>Zg0 s Ts λ x Ts' c=>Zg1 ss Ts' λ y Ts'' c' => K (ZbP s.back (backs ss) x y) Ts'' (c++c')
def ioDen:(ins:List ASh)->List Nat->(lsd (ios ins)->List Nat->Pg γ)->Pg γ
 | [],_,K=>K () []
 | .one s :: r,Ts,K=>Zg0 s Ts λ x Ts' c=>ioDen r Ts' λ y c' => K (ZbP s.back (ios r) x y) (c++c')
 | .agg ss :: r,Ts,K=>Zg1 ss Ts λ x Ts' c=>ioDen r Ts' λ y c' => K (ZbP (backs ss) (ios r) x y) (c++c')
 | .ptr true _ ss :: r,Ts,K=>ioDen r Ts K
 | .eat _ _ _ :: r,Ts,K=>ioDen r Ts K
 | .non :: r,Ts,K=>ioDen r Ts K
 | .ptr false t ss :: r,T :: Ts,K => .obj T fun
  | .box bt false cells=>chk (Nat.beq bt t) (Zh8 ss cells λ x c=>ioDen r Ts λ y c' => K (ZbP ss (ios r) x y) (T :: c++c'))
  | _ => .fail
 | _,_,_ => .fail
end
def mkIns:(ins:List ASh)->lsd (flats ins)->Nat->Nat->List (Nat×AV)×List (Nat×Ob)×Nat
 | [],_,_,nx=>([],[],nx)
 | .one s :: r,x,t,nx=>match mkLfs [s] (x.1,()) nx with
  | (ls,os,n)=>match mkIns r x.2 (t+1) n with
   | (vs,os', n')=>((t,outAV [(false,ls)]) :: vs,os++os', n')
 | .agg ss :: r,x,t,nx=>match mkLfs ss (Zaf ss (flats r) x).1 nx with
  | (ls,os,n)=>match mkIns r (Zaf ss (flats r) x).2 (t+1) n with
   | (vs,os', n')=>((t,.agg ls) :: vs,os++os', n')
 | .eat e m ty :: r,x,t,nx=>match mkLfs [.own e m ty] (x.1,()) nx with
  | (ls,os,n)=>match mkIns r x.2 (t+1) n with
   | (vs,os', n')=>((t,outAV [(false,ls)]) :: vs,os++os', n')
 | .non :: r,x,t,nx=>match mkIns r x (t+1) nx with
  | (vs,os', n')=>((t,.lf .nil) :: vs,os', n')
 | .ptr ro ty ss :: r,x,t,nx=>match mkLfs ss (Zaf ss (flats r) x).1 (nx+1)with
  | (ls,os,n)=>match mkIns r (Zaf ss (flats r) x).2 (t+1) n with
   | (vs,os', n')=>((t,.lf (.box nx 0)) :: vs,(nx,.box ty ro ls) :: os++os', n')
def Zcx:List LS->Nat->List Nat×Nat
 | [],nx=>([],nx)
 | .own _ _ _ :: r,nx=>match Zcx r (nx+1)with
  | (Ts,n)=>(nx :: Ts,n)
 | _ :: r,nx=>Zcx r nx
def ZbY:List ASh->Nat->List Nat
 | [],_=>[]
 | .one s :: r,nx=>match Zcx [s] nx with
  | (Ts,n)=>Ts++ZbY r n
 | .agg ss :: r,nx=>match Zcx ss nx with
  | (Ts,n)=>Ts++ZbY r n
 | .eat _ _ _ :: r,nx=>ZbY r (nx+1)
 | .non :: r,nx=>ZbY r nx
 | .ptr ro _ ss :: r,nx=>match Zcx ss (nx+1)with
  | (_,n)=>bif ro then ZbY r n else nx :: ZbY r n
def entry (ins:List ASh) (x:lsd (flats ins)):St:=match mkIns ins x 0 0 with
 | (fr,ob,n)=>{ fr,ob,nx:=n }
def collect (E:Env) (f:Fn) (σ : St):Option (lsd (flats f.outs)×lsd (ios f.ins)) :=
 (resPg E σ.fr f.res λ avs=>ZgN f.outs avs λ y c=>ioDen f.ins (ZbY f.ins 0) λ z c' => chk (nodup (c++c')) (Pg.ret (y,z))).run σ.ob (λ g _=>some g) []
def retK (E:Env) (f:Fn):Ex->St->Option (lsd (flats f.outs)×lsd (ios f.ins))
 | .exit _,_=>none
 | _,s=>collect E f s
def retG (f:Fn) {R:Type} (g:lsd (flats f.outs)×lsd (ios f.ins)->R) (E:Env) (e:Ex) (s:St):Option R:=(retK E f e s).map g
noncomputable def denF (E:Env) (f:Fn) {R:Type} (g:lsd (flats f.outs)×lsd (ios f.ins)->R) (x:lsd (flats f.ins)):Option R:=denC E f.body (entry f.ins x) (retG f g E)
inductive Fr where
 | seq (b:Code)
 | blk (id:Nat)
 | loop (c:Code)
noncomputable def stk (E:Env) {β : Type} (K:Ex->St->Option β):List Fr->Ex->St->Option β
 | []=>K
 | .seq b :: r=>seqK (λ s=>denC E b s (stk E K r)) (stk E K r)
 | .blk id :: r=>blkK id (stk E K r)
 | .loop c :: r=>seqK (λ s=>denC E (.loop c) s (stk E K r)) (stk E K r)
def place:Code->List Nat->List Fr->Code×List Fr
 | .seq a b,0 :: p,k=>place a p (.seq b :: k)
 | .seq _ b,_ :: p,k=>place b p k
 | .block id c,_ :: p,k=>place c p (.blk id :: k)
 | .loop c,_ :: p,k=>place c p (.loop c :: k)
 | .cond _ x _,0 :: p,k=>place x p k
 | .cond _ _ y,_ :: p,k=>place y p k
 | c,_,k=>(c,k)
noncomputable def denAt (E:Env) (f:Fn) {R:Type} (g:lsd (flats f.outs)×lsd (ios f.ins)->R) (p:List Nat) (σ : St):Option R:=match place f.body p []with
 | (c,k)=>denC E c σ (stk E (retG f g E) k)
def ZbL (S:Nat->Prop) (w w' : World):Prop:=∀k,S k->w'.heap[k]? = w.heap[k]?
def Zdk {α : Type} (Z:Nat->Prop) (w:World) (sz:Nat) (R : α -> List Value->Prop) (A:Option Addr) (c:Nat) (xs:List α):Prop :=
 xs.length<=c/\xs.length<=9223372036854775807/\(0 < xs.length->∃ad,A=some ad/\Z ad.block/\∀(j:Nat) (p : α),xs[j]? = some p->∃cs,cs.length=sz/\R p cs/\∀(i:Nat) (u:Value),cs[i]? = some u->w.cell? (ad.add (j*sz+i))=some u)
def Zch {α : Type} (w:World) (e sz:Nat) (R : α -> List Value->(Nat->Prop)->Prop) (hdr:Value) (xs:List α) (F:Nat->Prop):Prop :=
 ∃inner,w.ownsRow 0 e sz hdr xs.length inner/\(∀k,hdr.ownBlock=some k->F k) /\
  ∃Fs:Nat->Nat->Prop,(∀(j:Nat) (p : α),xs[j]? = some p->R p ((inner.drop (j*sz)).take sz) (Fs j)) /\
   (∀j k,Fs j k->F k/\hdr.ownBlock≠some k)/\(∀i j k,i≠j->Fs i k->¬ Fs j k)
def ZiC {α : Type} (w:World) (e sz:Nat) (R : α -> List Value->(Nat->Prop)->Prop) (hdr:Value) (xs:List α) (hl:List (Nat×Nat)) (N:Nat->Value->Prop) (F:Nat->Prop):Prop :=
 ∃inner,w.ownsRow 0 e sz hdr xs.length inner/\(∀k,hdr.ownBlock=some k->F k)/\(keys hl).Nodup/\(∀j n,(j,n)∈hl->∃v,N n v/\(inner.drop (j*sz)).take sz=[v]) /\
  ∃Fs:Nat->Nat->Prop,(∀(i:Nat) (p : α),i ∉ keys hl->xs[i]? = some p->R p ((inner.drop (i*sz)).take sz) (Fs i)) /\
   (∀i k,i ∉ keys hl->Fs i k->F k/\hdr.ownBlock≠some k)/\(∀a b k,a≠b->a ∉ keys hl->b ∉ keys hl->Fs a k->¬ Fs b k)
def NilOk (e n:Nat) (v:Value):Prop:=nf e=true->n=0->v = .slice none 0 0
theorem NilOk.of {e n:Nat} {v:Value} (h:nf e=true->0 < n):NilOk e n v:=λ h1 h2=>by have:=h h1;omega
def Rep (Z:Nat->Prop) (w:World) (m:Bool):(t:Ty)->t.den->List Value->(Nat->Prop)->Prop
 | .int k,x,cs,_=>cs=[.int k x]
 | .bool,x,cs,_=>cs=[.bool x]
 | .str,x,cs,_=>cs=[.string x]
 | .raw,x,cs,_=>cs=[x]/\x.oneCell' = true
 | .sl e t,xs,cs,F=>match m with
  | false=>∃A c,cs=[.slice A (List.length xs) c]/\Zdk Z w t.size (λ p c=>Rep Z w m t p c λ _=>False) A c xs/\NilOk e (List.length xs) (.slice A (List.length xs) c)
  | true=>∃hdr,cs=[hdr]/\Zch w e t.size (Rep Z w m t) hdr xs F/\NilOk e (List.length xs) hdr
 | .pr a b,x,cs,F=>∃c0 c1 F0 F1,cs=c0++c1/\Rep Z w m a x.1 c0 F0/\Rep Z w m b x.2 c1 F1/\(∀k,F0 k->F k)/\(∀k,F1 k->F k)/\∀k,F0 k->¬ F1 k
theorem ZhO {w w' : World} {a:Addr} {v:Value} (h:w.cell? a=some v) (hs:w'.heap[a.block]? = w.heap[a.block]?):w'.cell? a=some v:=(World.cell?_of_block hs).trans h
theorem ZdI (a:Addr) (n:Nat):(a.add n).block=a.block:=by unfold Addr.add;split <;> rfl
theorem ZgY (a:Addr) (m n:Nat):(a.add m).add n=a.add (m+n):=by
 unfold Addr.add
 by_cases hm:m=0
 ·subst hm;simp
 ·
  by_cases hn:n=0
  ·subst hn;simp
  ·
   have:¬ m+n=0:=by omega
   simp[hm,hn,Nat.add_assoc]
theorem ZbJ (g o n:Nat):(⟨g,o,none⟩:Addr).add n=⟨g,o+n,none⟩:=by unfold Addr.add;split <;> simp_all
theorem Zic {w w1:World} {base:Nat} {e:TypeId} {size n:Nat} {v:Value} {xs:List Value} (h:w.ownsRow base e size v n xs) (hm:∀k,v.ownBlock=some k->w1.heap[k]? = w.heap[k]?):w1.ownsRow base e size v n xs:=by
 obtain⟨h1,h2⟩:=h;refine⟨h1,?_⟩;rcases h2 with h2|⟨g,cap,cur,rfl,hg,hh,r⟩
 ·exact .inl h2
 ·exact .inr ⟨g,cap,cur,rfl,hg,(hm g (by simp[Value.ownBlock])).trans hh,r⟩
section
variable {α : Type} {Z Z' : Nat->Prop} {w w' : World} {e sz:Nat} {A:Option Addr} {c:Nat} {xs:List α} {hdr:Value} {F F' : Nat->Prop}
theorem Zdk.imp {R R' : α -> List Value->Prop} (h:Zdk Z w sz R A c xs) (hZ:∀k,Z k->Z' k) (hs:ZbL Z w w') (hR:∀p cs,R p cs->R' p cs):Zdk Z' w' sz R' A c xs:=by obtain⟨h1,h2,h3⟩:=h;refine⟨h1,h2,λ hl => ?_⟩;obtain⟨ad,rfl,hz,hc⟩:=h3 hl;refine⟨ad,rfl,hZ _ hz,λ j p hp => ?_⟩;obtain⟨cs,hcl,hr,hcc⟩:=hc j p hp;exact⟨cs,hcl,hR _ _ hr,λ i u hu=>ZhO (hcc i u hu) (hs _ (by rw[ZdI];exact hz))⟩
theorem Zch.imp {R R' : α -> List Value->(Nat->Prop)->Prop} (h:Zch w e sz R hdr xs F) (hF:∀k,F k->F' k) (hs:ZbL F w w') (hR:∀p cs G,(∀k,G k->F k)->R p cs G->R' p cs G):Zch w' e sz R' hdr xs F' := by obtain⟨inner,ho,hb,Fs,hr,hsub,hd⟩:=h;exact⟨inner,Zic ho λ k hk=>hs k (hb k hk),λ k hk=>hF k (hb k hk),Fs,λ j p hp=>hR _ _ _ (λ k hk=>(hsub j k hk).1) (hr j p hp),λ j k hk=>⟨hF k (hsub j k hk).1,(hsub j k hk).2⟩,hd⟩
end
theorem Rep.imp {m:Bool}:∀(t:Ty) {Z Z' F F' : Nat->Prop} {w w' : World} {x:t.den} {cs:List Value},Rep Z w m t x cs F->(∀k,Z k->Z' k)->(∀k,F k->F' k)->ZbL Z w w' -> ZbL F w w' -> Rep Z' w' m t x cs F'
 | .int _,_,_,_,_,_,_,_,_,h,_,_,_,_=>h
 | .bool,_,_,_,_,_,_,_,_,h,_,_,_,_=>h
 | .str,_,_,_,_,_,_,_,_,h,_,_,_,_=>h
 | .raw,_,_,_,_,_,_,_,_,h,_,_,_,_=>h
 | .sl e t,Z,Z', F,F', w,w', x,cs,h,hZ,hF,hz,hf=>by
  cases m with
  | false =>
   obtain⟨A,c,rfl,hv,hn⟩:=h;exact⟨A,c,rfl,hv.imp hZ hz λ p cs hp=>Rep.imp t hp hZ (λ _ h=>h) hz (λ _ h=>h.elim),hn⟩
  | true =>
   obtain⟨hdr,rfl,hr,hn⟩:=h;exact⟨hdr,rfl,hr.imp hF hf λ p cs G hG hp=>Rep.imp t hp hZ (λ _ h=>h) hz λ k hk=>hf k (hG k hk),hn⟩
 | .pr a b,Z,Z', F,F', w,w', x,cs,h,hZ,hF,hz,hf=>by obtain⟨c0,c1,F0,F1,rfl,h0,h1,hs0,hs1,hd⟩:=h;exact⟨c0,c1,F0,F1,rfl,Rep.imp a h0 hZ (λ _ h=>h) hz λ k hk=>hf k (hs0 k hk),Rep.imp b h1 hZ (λ _ h=>h) hz λ k hk=>hf k (hs1 k hk),λ k hk=>hF k (hs0 k hk),λ k hk=>hF k (hs1 k hk),hd⟩
theorem Rep.len {m:Bool}:∀(t:Ty) {Z F:Nat->Prop} {w:World} {x:t.den} {cs:List Value},Rep Z w m t x cs F->cs.length=t.size
 | .int _,_,_,_,_,_,h=>by cases h;rfl
 | .bool,_,_,_,_,_,h=>by cases h;rfl
 | .str,_,_,_,_,_,h=>by cases h;rfl
 | .raw,_,_,_,_,_,h=>by obtain⟨rfl,_⟩:=h;rfl
 | .sl e t,Z,F,w,x,cs,h=>by
  cases m with
  | false=>obtain⟨A,c,rfl,_⟩:=h;rfl
  | true=>obtain⟨hdr,rfl,_⟩:=h;rfl
 | .pr a b,Z,F,w,x,cs,h=>by obtain⟨c0,c1,F0,F1,rfl,h0,h1,_⟩:=h;rw[List.length_append,Rep.len a h0,Rep.len b h1];rfl
theorem Zdt {w:World} {e sz n:Nat} {v:Value} {xs:List Value} (h:w.ownsRow 0 e sz v n xs):v.oneCell' = true:=by rcases h.2 with ⟨rfl,_⟩|⟨g,cap,cur,rfl,_⟩ <;> rfl
theorem Rep.one {m:Bool}:∀(t:Ty) {Z F:Nat->Prop} {w:World} {x:t.den} {cs:List Value},Rep Z w m t x cs F->∀u∈cs,u.oneCell' = true
 | .int _,_,_,_,_,_,h=>by cases h;simp[Value.oneCell']
 | .bool,_,_,_,_,_,h=>by cases h;simp[Value.oneCell']
 | .str,_,_,_,_,_,h=>by cases h;simp[Value.oneCell']
 | .raw,_,_,_,_,_,h=>by obtain⟨rfl,h1⟩:=h;intro u hu;rw[List.mem_singleton.1 hu];exact h1
 | .sl e t,Z,F,w,x,cs,h=>by
  cases m with
  | false=>obtain⟨A,c,rfl,_⟩:=h;simp[Value.oneCell']
  | true =>
   obtain⟨hdr,rfl,⟨inner,ho,_⟩,_⟩:=h;intro u hu;rw[List.mem_singleton.1 hu];exact Zdt ho
 | .pr a b,Z,F,w,x,cs,h=>by
  obtain⟨c0,c1,F0,F1,rfl,h0,h1,_⟩:=h;intro u hu;rcases List.mem_append.1 hu with hu|hu
  ·exact Rep.one a h0 u hu
  ·exact Rep.one b h1 u hu
theorem ZcF:∀t:Ty,0 < t.size
 | .int _=>Nat.one_pos
 | .bool=>Nat.one_pos
 | .str=>Nat.one_pos
 | .raw=>Nat.one_pos
 | .sl _ _=>Nat.one_pos
 | .pr a b=>Nat.add_pos_left (ZcF a) _
theorem ZbQ {w:World} {e sz n:Nat} {v:Value} {xs:List Value} (h:w.ownsRow 0 e sz v n xs) (hn:0 < n) (hz:0 < sz):∃g cap,v = .slice (some ⟨g,0,none⟩) n cap/\n<=cap/\n<=9223372036854775807/\∀j u,xs[j]? = some u->w.cell? (⟨g,j,none⟩:Addr)=some u/\w.frozen? ⟨g,j,none⟩=false:=by
 rcases h.2 with ⟨_,h0⟩|⟨g,cap,cur,hv,_,hg,hnc,hcm,hcs,htake⟩
 ·omega
 ·
  refine⟨g,cap,hv,hnc,by simp only[maxLen]at hcm;omega,λ j u hu=>⟨?_,frozen_of_row w g j cur e hg⟩⟩
  rw[cell_of_row w g j cur e (0,0) hg];rw[<-htake,List.getElem?_take]at hu
  split at hu
  ·simpa using hu
  ·cases hu
theorem Zcd {xs:List Value} {n i m:Nat} {u:Value} (h:((xs.drop n).take m)[i]? = some u):xs[n+i]? = some u:=by
 rw[List.getElem?_take]at h
 split at h
 ·rwa[List.getElem?_drop]at h
 ·cases h
theorem Rep.view:∀(t:Ty) {Z F:Nat->Prop} {w:World} {m:Bool} {x:t.den} {cs:List Value} (G:Nat->Prop),Rep Z w m t x cs F->Rep (λ k=>Z k\/F k) w false t x cs G
 | .int _,_,_,_,_,_,_,_,h=>h
 | .bool,_,_,_,_,_,_,_,h=>h
 | .str,_,_,_,_,_,_,_,h=>h
 | .raw,_,_,_,_,_,_,_,h=>h
 | .sl e t,Z,F,w,m,x,cs,G,h=>by
  cases m with
  | false =>
   obtain⟨A,c,rfl,hv,hn⟩:=h;exact⟨A,c,rfl,hv.imp (λ _ h => .inl h) (λ _ _=>rfl) λ p cs hp=>Rep.imp t hp (λ _ h => .inl h) (λ _ h=>h) (λ _ _=>rfl) (λ _ _=>rfl),hn⟩
  | true =>
   obtain⟨hdr,rfl,⟨inner,ho,hb,Fs,hr,hsub,hd⟩,hn⟩:=h;rcases Nat.eq_zero_or_pos (List.length x)with h0|h0
   ·
    rcases ho.2 with ⟨rfl,_⟩|⟨g,cap,cur,rfl,_,_,hnc,hcm,_⟩
    ·exact⟨none,0,by rw[h0],⟨by rw[h0];exact Nat.zero_le _,by rw[h0];exact Nat.zero_le _,λ hl=>by omega⟩,λ _ _=>by rw[h0]⟩
    ·exact⟨some ⟨g,0,none⟩,cap,rfl,⟨hnc,by simp only[maxLen]at hcm;omega,λ hl=>by omega⟩,hn⟩
   ·
    obtain⟨g,cap,rfl,hnc,hm,hc⟩:=ZbQ ho h0 (ZcF t);refine⟨some ⟨g,0,none⟩,cap,rfl,⟨hnc,hm,λ _=>⟨⟨g,0,none⟩,rfl,.inr (hb g rfl),λ j p hp=>⟨(inner.drop (j*t.size)).take t.size,Rep.len t (hr j p hp),?_,λ i u hu => ?_⟩⟩⟩,hn⟩
    ·exact Rep.imp t (Rep.view t (λ _=>False) (hr j p hp)) (λ k hk=>hk.imp id λ h=>(hsub j k h).1) (λ _ h=>h) (λ _ _=>rfl) (λ _ _=>rfl)
    ·rw[ZbJ,Nat.zero_add];exact(hc _ u (Zcd hu)).1
 | .pr a b,Z,F,w,m,x,cs,G,h=>by
  obtain⟨c0,c1,F0,F1,rfl,h0,h1,hs0,hs1,hd⟩:=h;exact⟨c0,c1,λ _=>False,λ _=>False,rfl,Rep.imp a (Rep.view a _ h0) (λ k hk=>hk.imp id (hs0 k)) (λ _ h=>h) (λ _ _=>rfl) (λ _ _=>rfl),
   Rep.imp b (Rep.view b _ h1) (λ k hk=>hk.imp id (hs1 k)) (λ _ h=>h) (λ _ _=>rfl) (λ _ _=>rfl),λ _ h=>h.elim,λ _ h=>h.elim,λ _ h=>h.elim⟩
theorem Rep.flat:∀(t:Ty),t.flat=true->∀{Z Z' F:Nat->Prop} {w w' : World} {m m' : Bool} {x:t.den} {cs:List Value},Rep Z w m t x cs F->Rep Z' w' m' t x cs λ _=>False
 | .int _,_,_,_,_,_,_,_,_,_,_,h=>h
 | .bool,_,_,_,_,_,_,_,_,_,_,h=>h
 | .str,_,_,_,_,_,_,_,_,_,_,h=>h
 | .raw,_,_,_,_,_,_,_,_,_,_,h=>h
 | .sl e t,hf,_,_,_,_,_,_,_,_,_,h=>by cases hf
 | .pr a b,hf,Z,Z', F,w,w', m,m', x,cs,h=>by obtain⟨c0,c1,F0,F1,rfl,h0,h1,hs0,hs1,hd⟩:=h;simp only[Ty.flat,Bool.and_eq_true]at hf;exact⟨c0,c1,λ _=>False,λ _=>False,rfl,Rep.flat a hf.1 h0,Rep.flat b hf.2 h1,λ _ h=>h,λ _ h=>h,λ _ h=>h.elim⟩
structure Rzv where
 hdr:Value
 F:Nat->Prop
abbrev Rz:=Nat->Option Rzv
def Callable (P : Program) (g : FuncId) : Prop := ∃ fn, P.funcs[g]? = some fn ∧ (fn.name == "runtime.NumGoroutine") = false ∧ fn.body.isSome = true
def ZdG (Z:Nat->Prop) (w:World):(asx:List Ty)->dens asx->List Value->Prop
 | [],_,vs=>vs=[]
 | t :: asx,x,vs=>∃v cs r,vs=v :: r/\v.cells.toList=cs/\(t.one=true->v.oneCell' = true)/\Rep Z w false t x.1 cs (λ _=>False)/\ZdG Z w asx x.2 r
def FnR (P:Program) (Z:Nat->Prop) (w:World) (asx:List Ty) (r:Ty) (f:dens asx->Option r.den) (v:Value):Prop :=
 ∃g first caps,v = .func (.func g) first caps/\Callable P g/\∀(w1:World) (Z1:Nat->Prop) (x:dens asx) (y:r.den) (vs:List Value),ZbL Z w w1->f x=some y->(∀k,Z1 k->k < w1.heap.size)->ZdG Z1 w1 asx x vs ->
  Calls P g (first++vs.toArray++caps) w1 λ e w2=>∃u,e = .returned u/\Rep (λ _=>False) w2 false r y [u] (λ _=>False)/\Below w1.heap.size w1 w2
section
variable (P:Program) (B:Nat->Prop)
def BoxR (ρ : Rz) (T off:Nat) (v:Value):Prop:=∃z g,ρ T=some z/\z.hdr = .pointer (some ⟨g,0,none⟩)/\v = .pointer (some ⟨g,off,none⟩)
def CapsR (ρ : Rz):List (Nat×Nat)->List Value->Prop
 | [],vs=>vs=[]
 | (T,o) :: r,vs=>∃v vs', vs=v :: vs' /\ BoxR ρ T o v/\CapsR ρ r vs'
def LR (ρ : Rz) (Z:Nat->Prop) (w:World):Lf->Value->Prop
 | .int k n,v=>v = .int k n
 | .cnd n p d,v=>v = .bool (bval n p d)
 | .str s,v=>v = .string s
 | .raw u,v=>v=u/\v.oneCell' = true
 | .sl t xs,v=>∃A c,v = .slice A (List.length xs) c/\Zdk Z w t.size (λ p c=>Rep Z w false t p c λ _=>False) A c xs
 | .nil,v=>v = .slice none 0 0
 | .own T,v=>∃z,ρ T=some z/\v=z.hdr/\v.oneCell' = true
 | .sub T j,v=>∃z g n c,ρ T=some z/\z.hdr = .slice (some ⟨g,0,none⟩) n c/\j<=n/\v=sliced (some ⟨g,0,none⟩) j n c 1
 | .box T off,v=>BoxR ρ T off v
 | .elt T i sz off,v=>∃z g n c,ρ T=some z/\z.hdr = .slice (some ⟨g,0,none⟩) n c/\0<=i/\i < (n:Int)/\v = .pointer (some ⟨g,i.toNat*sz+off,none⟩)
 | .vpt t x off,v=>∃(ad:Addr) (cs:List Value),v = .pointer (some (ad.add off))/\Z ad.block/\Rep Z w false t x cs (λ _=>False)/\∀(i:Nat) (u:Value),cs[i]? = some u->w.cell? (ad.add i)=some u
 | .fn asx r f,v=>FnR P (λ k=>Z k\/B k) w asx r f v
 | .clo g caps,v=>∃vs,v = .func (.func g) #[] vs.toArray/\CapsR ρ caps vs
 | .undef,v=>v=undef
 | .top,v=>v.oneCell' = true
 | .emp b,v=>∃A c,v = .slice A 0 c/\A.isNone=b
 | .pre T j,v=>∃z g n c,ρ T=some z/\z.hdr = .slice (some ⟨g,0,none⟩) n c/\j<=n/\v = .slice (some ⟨g,0,none⟩) j c
def LRs (ρ : Rz) (Z:Nat->Prop) (w:World):List Lf->List Value->Prop
 | [],vs=>vs=[]
 | l :: r,vs=>∃v vs', vs=v :: vs' /\ LR P B ρ Z w l v/\LRs ρ Z w r vs'
def TupR (ρ : Rz) (Z:Nat->Prop) (w:World):List (Bool×List Lf)->List Value->Prop
 | [],vs=>vs=[]
 | (b,ls) :: r,vs=>∃v vs' cs,vs=v :: vs' /\ LRs P B ρ Z w ls cs/\(bif b then v = .agg cs.toArray else cs=[v])/\TupR ρ Z w r vs'
def AR (ρ : Rz) (Z:Nat->Prop) (w:World):AV->Value->Prop
 | .lf l,v=>LR P B ρ Z w l v
 | .agg ls,v=>∃vs,v = .agg vs.toArray/\LRs P B ρ Z w ls vs
 | .tup ps,v=>∃vs,v = .tuple vs.toArray/\TupR P B ρ Z w ps vs
def OR (ρ : Rz) (Z:Nat->Prop) (w:World):Ob->Rzv->Prop
 | .box t ro cells,z=>∃g vs,z.hdr = .pointer (some ⟨g,0,none⟩)/\w.heap[g]? = some (.cells vs.toArray t (0,0))/\LRs P B ρ Z w cells vs/\lfsOk cells=true/\(ro=false->z.F g)/\(ro=true->B g)
 | .row e m t xs,z=>Zch w e t.size (Rep Z w m t) z.hdr xs z.F
 | .hole e t xs hl,z=>ZiC w e t.size (Rep Z w true t) z.hdr xs hl (λ n v=>∃zn,ρ n=some zn/\zn.hdr=v/\v.oneCell' = true) z.F
abbrev Obs:=Nat->Option Ob
def Own (ρ : Rz) (ob:Obs) (k:Nat):Prop:=∃T z,(ob T).isSome=true /\ ρ T=some z/\z.F k
structure Mem (ρ : Rz) (Z:Nat->Prop) (ob:Obs) (w:World):Prop where
 obj:∀T o,ob T=some o->∃z,ρ T=some z/\OR P B ρ Z w o z
 sep:∀T T' z z' k,T≠T' -> (ob T).isSome=true->(ob T').isSome=true -> ρ T=some z -> ρ T' = some z' -> z.F k->¬ z'.F k
 zsep:∀k,Own ρ ob k->¬ Z k/\k < w.heap.size
 zlt:∀k,Z k->k < w.heap.size
 bsep:∀k,Own ρ ob k->¬ B k
 blt:∀k,B k->k < w.heap.size
end
structure Trn (ρ : Rz) (Z:Nat->Prop) (ob:Obs) (w:World) (ρ' : Rz) (Z' : Nat->Prop) (ob' : Obs) (w' : World):Prop where
 os:w'.os=w.os
 tape:w'.tape=w.tape
 output:w'.output=w.output
 size:w.heap.size<=w'.heap.size
 old:∀k,k < w.heap.size->¬ Own ρ ob k->w'.heap[k]? = w.heap[k]?
 own:∀k,Own ρ' ob' k->Own ρ ob k\/w.heap.size<=k
 zn:∀k,Z' k->Z k\/Own ρ ob k\/w.heap.size<=k
 zm:∀k,Z k->Z' k
 hdr:∀T z,ρ T=some z->∃z', ρ' T=some z' /\ z'.hdr=z.hdr
section
variable {P:Program} {B:Nat->Prop} {ρ ρ' ρ'' : Rz} {Z Z' Z'' : Nat->Prop} {ob ob' ob'' : Obs} {w w' w'' : World}
theorem Trn.refl (ρ : Rz) (Z:Nat->Prop) (ob:Obs) (w:World):Trn ρ Z ob w ρ Z ob w:=⟨rfl,rfl,rfl,Nat.le_refl _,λ _ _ _=>rfl,λ _ h => .inl h,λ _ h => .inl h,λ _ h=>h,λ _ z h=>⟨z,h,rfl⟩⟩
theorem Trn.trans (h:Trn ρ Z ob w ρ' Z' ob' w') (h' : Trn ρ' Z' ob' w' ρ'' Z'' ob'' w''):Trn ρ Z ob w ρ'' Z'' ob'' w'' where
 os:=h'.os.trans h.os
 tape:=h'.tape.trans h.tape
 output:=h'.output.trans h.output
 size:=Nat.le_trans h.size h'.size
 old:=λ k hk hn=>(h'.old k (Nat.lt_of_lt_of_le hk h.size) λ ho=>(h.own k ho).elim hn λ h=>by omega).trans (h.old k hk hn)
 own:=λ k hk=>(h'.own k hk).elim (h.own k) λ h1 => .inr (Nat.le_trans h.size h1)
 zn:=λ k hk=>(h'.zn k hk).elim (h.zn k) λ h1=>h1.elim (λ h2 => .inr (h.own k h2)) λ h2 => .inr (.inr (Nat.le_trans h.size h2))
 zm:=λ k hk=>h'.zm k (h.zm k hk)
 hdr:=λ T z hz=>by obtain⟨z', h1,h2⟩:=h.hdr T z hz;obtain⟨z'', h3,h4⟩:=h'.hdr T z' h1;exact⟨z'', h3,h4.trans h2⟩
theorem Mem.sameZ (hm:Mem P B ρ Z ob w) (h:Trn ρ Z ob w ρ' Z' ob' w'):ZbL Z w w' := λ k hk=>h.old k (hm.zlt k hk) λ ho=>(hm.zsep k ho).1 hk
theorem Mem.sameB (hm:Mem P B ρ Z ob w) (h:Trn ρ Z ob w ρ' Z' ob' w'):ZbL B w w' := λ k hk=>h.old k (hm.blt k hk) λ ho=>hm.bsep k ho hk
structure Fut (B:Nat->Prop) (ρ : Rz) (Z:Nat->Prop) (w:World) (ρ' : Rz) (Z' : Nat->Prop) (w' : World):Prop where
 zm:∀k,Z k->Z' k
 same:ZbL Z w w'
 sameB:ZbL B w w'
 hdr:∀T z,ρ T=some z->∃z', ρ' T=some z' /\ z'.hdr=z.hdr
theorem Trn.fut (h:Trn ρ Z ob w ρ' Z' ob' w') (hm:Mem P B ρ Z ob w):Fut B ρ Z w ρ' Z' w' := ⟨h.zm,hm.sameZ h,hm.sameB h,h.hdr⟩
theorem BoxR.fut {T off:Nat} {v:Value} (h:BoxR ρ T off v) (hf:Fut B ρ Z w ρ' Z' w'):BoxR ρ' T off v:=by obtain⟨z,g,h1,h2,h3⟩:=h;obtain⟨z', h4,h5⟩:=hf.hdr T z h1;exact⟨z', g,h4,h5.trans h2,h3⟩
theorem CapsR.fut (hf:Fut B ρ Z w ρ' Z' w'):∀{caps:List (Nat×Nat)} {vs:List Value},CapsR ρ caps vs->CapsR ρ' caps vs
 | [],_,h=>h
 | (T,o) :: r,_,⟨v,vs', h1,h2,h3⟩=>⟨v,vs', h1,h2.fut hf,CapsR.fut hf h3⟩
theorem FnR.fut {asx:List Ty} {r:Ty} {f:dens asx->Option r.den} {v:Value} (h:FnR P Z w asx r f v) (hz:∀k,Z k->Z' k) (hs:ZbL Z w w'):FnR P Z' w' asx r f v:=by obtain⟨g,first,caps,h1,h2,h3⟩:=h;exact⟨g,first,caps,h1,h2,λ w1 Z1 x y vs h4=>h3 w1 Z1 x y vs λ k hk=>(h4 k (hz k hk)).trans (hs k hk)⟩
theorem LR.fut {v:Value} (hf:Fut B ρ Z w ρ' Z' w'):∀{l:Lf},LR P B ρ Z w l v->LR P B ρ' Z' w' l v
 | .int _ _,h=>h
 | .cnd _ _ _,h=>h
 | .str _,h=>h
 | .raw _,h=>h
 | .sl t xs,h=>by obtain⟨A,c,rfl,hv⟩:=h;exact⟨A,c,rfl,hv.imp hf.zm hf.same λ p cs hp=>Rep.imp t hp hf.zm (λ _ h=>h) hf.same λ _ h=>h.elim⟩
 | .nil,h=>h
 | .own T,h=>by obtain⟨z,h1,h2,h3⟩:=h;obtain⟨z', h4,h5⟩:=hf.hdr T z h1;exact⟨z', h4,h2.trans h5.symm,h3⟩
 | .sub T _,h=>by obtain⟨z,g,n,c,h1,h2,h3⟩:=h;obtain⟨z', h4,h5⟩:=hf.hdr T z h1;exact⟨z', g,n,c,h4,h5.trans h2,h3⟩
 | .box _ _,h=>BoxR.fut h hf
 | .elt T _ _ _,h=>by obtain⟨z,g,n,c,h1,h2,h3⟩:=h;obtain⟨z', h4,h5⟩:=hf.hdr T z h1;exact⟨z', g,n,c,h4,h5.trans h2,h3⟩
 | .vpt t x off,h=>by obtain⟨ad,cs,h1,h2,h3,h4⟩:=h;exact⟨ad,cs,h1,hf.zm _ h2,Rep.imp t h3 hf.zm (λ _ h=>h) hf.same (λ _ h=>h.elim),λ i u hu=>ZhO (h4 i u hu) (hf.same _ (by rw[ZdI];exact h2))⟩
 | .fn _ _ _,h=>FnR.fut h (λ k hk=>hk.imp (hf.zm k) id) λ k hk=>hk.elim (hf.same k) (hf.sameB k)
 | .clo _ _,h=>by obtain⟨vs,h1,h2⟩:=h;exact⟨vs,h1,CapsR.fut hf h2⟩
 | .undef,h=>h
 | .top,h=>h
 | .pre T _,h=>by obtain⟨z,g,n,c,h1,h2,h3⟩:=h;obtain⟨z', h4,h5⟩:=hf.hdr T z h1;exact⟨z', g,n,c,h4,h5.trans h2,h3⟩
 | .emp _,h=>h
theorem LRs.fut (hf:Fut B ρ Z w ρ' Z' w'):∀{ls:List Lf} {vs:List Value},LRs P B ρ Z w ls vs->LRs P B ρ' Z' w' ls vs
 | [],_,h=>h
 | l :: r,_,⟨v,vs', h1,h2,h3⟩=>⟨v,vs', h1,h2.fut hf,LRs.fut hf h3⟩
theorem TupR.fut (hf:Fut B ρ Z w ρ' Z' w'):∀{ps:List (Bool×List Lf)} {vs:List Value},TupR P B ρ Z w ps vs->TupR P B ρ' Z' w' ps vs
 | [],_,h=>h
 | (b,ls) :: r,_,⟨v,vs', cs,h1,h2,h3,h4⟩=>⟨v,vs', cs,h1,h2.fut hf,h3,TupR.fut hf h4⟩
theorem AR.fut {v:Value} (hf:Fut B ρ Z w ρ' Z' w'):∀{av:AV},AR P B ρ Z w av v->AR P B ρ' Z' w' av v
 | .lf _,h=>LR.fut hf h
 | .agg _,⟨vs,h1,h2⟩=>⟨vs,h1,h2.fut hf⟩
 | .tup _,⟨vs,h1,h2⟩=>⟨vs,h1,h2.fut hf⟩
theorem LR.one:∀{l:Lf} {v:Value},LR P B ρ Z w l v->l.ok=true->v.oneCell' = true
 | .int _ _,_,h,_=>by cases h;rfl
 | .cnd _ _ _,_,h,_=>by cases h;rfl
 | .str _,_,h,_=>by cases h;rfl
 | .raw _,_,h,_=>h.2
 | .sl t xs,_,⟨A,c,h,_⟩,_=>by cases h;rfl
 | .nil,_,h,_=>by cases h;rfl
 | .own T,_,⟨z,_,_,h⟩,_=>h
 | .sub _ _,_,⟨z,g,n,c,_,_,_,h⟩,_=>by cases h;rfl
 | .box _ _,_,⟨z,g,_,_,h⟩,_=>by cases h;rfl
 | .elt _ _ _ _,_,⟨z,g,n,c,_,_,_,_,h⟩,_=>by cases h;rfl
 | .vpt _ _ _,_,⟨ad,cs,h,_⟩,_=>by cases h;rfl
 | .fn _ _ _,_,⟨g,first,caps,h,_⟩,_=>by cases h;rfl
 | .clo _ _,_,⟨vs,h,_⟩,_=>by cases h;rfl
 | .undef,_,_,h=>by cases h
 | .top,_,h,_=>h
 | .emp _,_,⟨A,c,h,_⟩,_=>by cases h;rfl
 | .pre _ _,_,⟨z,g,n,c,_,_,_,h⟩,_=>by cases h;rfl
theorem LRs.one:∀{ls:List Lf} {vs:List Value},LRs P B ρ Z w ls vs->lfsOk ls=true->∀u∈vs,u.oneCell' = true
 | [],_,h,_=>by cases h;simp
 | l :: r,_,⟨v,vs', h1,h2,h3⟩,ho=>by
  subst h1;simp only[lfsOk,Bool.and_eq_true]at ho;intro u hu;rcases List.mem_cons.1 hu with rfl|hu
  ·exact h2.one ho.1
  ·exact LRs.one h3 ho.2 u hu
theorem LRs.len:∀{ls:List Lf} {vs:List Value},LRs P B ρ Z w ls vs->vs.length=ls.length
 | [],_,h=>by cases h;rfl
 | l :: r,_,⟨v,vs', h1,h2,h3⟩=>by subst h1;simp[LRs.len h3]
theorem LRs.append:∀{l1 l2:List Lf} {v1 v2:List Value},LRs P B ρ Z w l1 v1->LRs P B ρ Z w l2 v2->LRs P B ρ Z w (l1++l2) (v1++v2)
 | [],_,_,_,h,h' => by cases h;exact h'
 | l :: r,_,_,_,⟨v,vs', h1,h2,h3⟩,h' => by subst h1;exact⟨v,vs' ++ _,rfl,h2,LRs.append h3 h'⟩
theorem LRs.take:∀{ls:List Lf} {vs:List Value} (n:Nat),LRs P B ρ Z w ls vs->LRs P B ρ Z w (ls.take n) (vs.take n)
 | [],_,n,h=>by cases h;rw[List.take_nil,List.take_nil];rfl
 | l :: r,_,0,⟨v,vs', h1,h2,h3⟩=>rfl
 | l :: r,_,n+1,⟨v,vs', h1,h2,h3⟩=>by subst h1;exact⟨v,vs'.take n,rfl,h2,LRs.take n h3⟩
theorem LRs.drop:∀{ls:List Lf} {vs:List Value} (n:Nat),LRs P B ρ Z w ls vs->LRs P B ρ Z w (ls.drop n) (vs.drop n)
 | [],_,n,h=>by cases h;rw[List.drop_nil,List.drop_nil];rfl
 | l :: r,_,0,h=>h
 | l :: r,_,n+1,⟨v,vs', h1,h2,h3⟩=>by subst h1;exact LRs.drop n h3
theorem ZdR:∀(a b:List Lf),lfsOk (a++b)=(lfsOk a && lfsOk b)
 | [],_=>rfl
 | l :: r,b=>by simp only[List.cons_append,lfsOk,ZdR r b,Bool.and_assoc]
theorem ZgE:∀(a:List Lf) (n:Nat),lfsOk a=true->lfsOk (a.take n)=true
 | [],n,_=>by rw[List.take_nil];rfl
 | l :: r,0,_=>rfl
 | l :: r,n+1,h=>by simp only[lfsOk,Bool.and_eq_true,List.take_succ_cons]at h ⊢;exact⟨h.1,ZgE r n h.2⟩
theorem ZgD:∀(a:List Lf) (n:Nat),lfsOk a=true->lfsOk (a.drop n)=true
 | [],n,_=>by rw[List.drop_nil];rfl
 | l :: r,0,h=>h
 | l :: r,n+1,h=>by simp only[lfsOk,Bool.and_eq_true,List.drop_succ_cons]at h ⊢;exact ZgD r n h.2
end
section
variable {β γ : Type} {ob:List (Nat×Ob)} {K : γ -> List Nat->Option β} {nd:List Nat} {r : β} {x y:Pg γ}
theorem ZaO {b:Bool}:(chk b x).run ob K nd=some r↔b=true/\x.run ob K nd=some r:=by
 cases b
 ·exact⟨(λ h=>by cases h),(λ h=>by cases h.1)⟩
 ·exact⟨λ h=>⟨rfl,h⟩,λ h=>h.2⟩
theorem Zbu {T:Nat} {f:Ob->Pg γ}:(Pg.obj T f).run ob K nd=some r↔∃o,lk T ob=some o/\(f o).run ob K (T :: nd)=some r:=by
 simp only[Pg.run]
 cases h:lk T ob with
 | none=>simp
 | some o=>simp
theorem run_test {p:Prop} {d:Decidable p}:(Pg.test p d x y).run ob K nd=some r↔(p/\x.run ob K nd=some r)\/(¬ p/\y.run ob K nd=some r):=by
 show(@ite _ p d (x.run ob K nd) (y.run ob K nd))=some r↔_
 cases d with
 | isTrue h=>simp[h]
 | isFalse h=>simp[h]
theorem ZZ {p:Prop} [d:Decidable p]:(guard p x).run ob K nd=some r↔p/\x.run ob K nd=some r:=by unfold guard;rw[run_test];exact⟨(λ h=>h.elim id (λ h=>by cases h.2)),λ h=>Or.inl h⟩
theorem Zd8 {e n:Nat} (h:(ZjS e n x).run ob K nd=some r):(nf e=true->0 < n)/\x.run ob K nd=some r:=by
 unfold ZjS at h
 cases hh:nf e with
 | false=>rw[hh]at h;exact⟨λ h=>by(cases h),h⟩
 | true=>rw[hh]at h;have h:=ZZ.1 h;exact⟨λ _=>h.1,h.2⟩
theorem Zhz {α : Type} {v:Option α} {f : α -> Pg γ}:(Pg.call v f).run ob K nd=some r↔∃a,v=some a/\(f a).run ob K nd=some r:=by
 show(v.bind λ a=>(f a).run ob K nd)=some r↔_
 cases v <;> simp
end
theorem ZeE {k k' : IntKind} (h:Nat.beq (kb k) (kb k')=true):k=k' := by cases k <;> cases k' <;> first|rfl|cases h
section
variable {P:Program} {B:Nat->Prop} {ρ : Rz} {Z:Nat->Prop} {w:World} {ob:List (Nat×Ob)}
abbrev look (ob:List (Nat×Ob)):Obs:=λ T=>lk T ob
theorem Rep.noF:∀(t:Ty) {Z F G:Nat->Prop} {w:World} {x:t.den} {cs:List Value},Rep Z w false t x cs F->Rep Z w false t x cs G
 | .int _,_,_,_,_,_,_,h=>h
 | .bool,_,_,_,_,_,_,h=>h
 | .str,_,_,_,_,_,_,h=>h
 | .raw,_,_,_,_,_,_,h=>h
 | .sl _ _,_,_,_,_,_,_,h=>h
 | .pr a b,Z,F,G,w,x,cs,h=>by obtain⟨c0,c1,F0,F1,rfl,h0,h1,_⟩:=h;exact⟨c0,c1,λ _=>False,λ _=>False,rfl,Rep.noF a h0,Rep.noF b h1,λ _ h=>h.elim,λ _ h=>h.elim,λ _ h=>h.elim⟩
def Of (ρ : Rz) (c:List Nat) (k:Nat):Prop:=∃T z,T∈c /\ ρ T=some z/\z.F k
def Alive (ob:List (Nat×Ob)) (c:List Nat):Prop:=∀T∈c,(lk T ob).isSome=true
def Tells (ρ : Rz) (Z:Nat->Prop) (w:World) (q:Nat) (t:Ty) (x:t.den) (cs:List Value) (c:List Nat):Prop:=match q with
 | 0=>Rep Z w false t x cs λ _=>False
 | 1=>nodup c=true->Rep Z w true t x cs (Of ρ c)
 | _=>Rep (λ k=>Z k\/Of ρ c k) w false t x cs λ _=>False
theorem nodup_append {a b:List Nat} (h:nodup (a++b)=true):nodup a=true/\nodup b=true/\∀T∈a,T ∉ b:=by
 induction a with
 | nil=>exact⟨rfl,h,λ _ h=>by cases h⟩
 | cons n a ih =>
  simp only[List.cons_append,nodup,Bool.and_eq_true,Bool.not_eq_true', List.contains_eq_mem,decide_eq_false_iff_not,List.mem_append,not_or]at h ⊢;obtain⟨h1,h2,h3⟩:=ih h.2;refine⟨⟨h.1.1,h1⟩,h2,λ T hT => ?_⟩;rcases List.mem_cons.1 hT with rfl|hT
  ·exact h.1.2
  ·exact h3 T hT
theorem Of.sep (hm:Mem P B ρ Z (look ob) w) {a b:List Nat} (ha:Alive ob a) (hb:Alive ob b) (hd:∀T∈a,T ∉ b) {k:Nat} (h:Of ρ a k):¬ Of ρ b k:=by rintro⟨T', z', h1', h2', h3'⟩;obtain⟨T,z,h1,h2,h3⟩:=h;exact hm.sep T T' z z' k (λ e=>hd T h1 (e ▸ h1')) (ha T h1) (hb T' h1') h2 h2' h3 h3'
theorem Zdz (hm:Mem P B ρ Z (look ob) w) {q:Nat} {β γ : Type} {KK : γ -> List Nat->Option β} {r : β}:∀(t:Ty) (ls:List Lf) (vs:List Value) (nd:List Nat) (K:t.den->List Lf->List Nat->Pg γ),(toDen q t ls K).run ob KK nd=some r->LRs P B ρ Z w ls vs ->
  ∃x ls' c nd' cs vs', (K x ls' c).run ob KK nd' = some r/\vs=cs++vs' /\ LRs P B ρ Z w ls' vs' /\ Tells ρ Z w q t x cs c/\Alive ob c/\cs.length=t.size:=by
 intro t
 induction t with
 | int k =>
  intro ls vs nd K h hl;rcases ls with _|⟨l,ls⟩
  ·cases h
  ·
   obtain⟨v,vs,rfl,h1,h2⟩:=hl
   cases l <;> first|cases h|skip
   rename_i k' n
   simp only[toDen,ZaO]at h;obtain⟨hk,h⟩:=h;obtain rfl:=ZeE hk;refine⟨n,ls,[],nd,[v],vs,h,rfl,h2,?_,(λ _ h=>by cases h),rfl⟩;unfold Tells;split <;> (try intro _) <;> (cases h1;rfl)
 | bool =>
  intro ls vs nd K h hl;rcases ls with _|⟨l,ls⟩
  ·cases h
  ·
   obtain⟨v,vs,rfl,h1,h2⟩:=hl
   cases l <;> first|cases h|skip
   rename_i n p d
   refine⟨_,ls,[],nd,[v],vs,h,rfl,h2,?_,(λ _ h=>by cases h),rfl⟩;unfold Tells;split <;> (try intro _) <;> (cases h1;rfl)
 | str =>
  intro ls vs nd K h hl;rcases ls with _|⟨l,ls⟩
  ·cases h
  ·
   obtain⟨v,vs,rfl,h1,h2⟩:=hl
   cases l <;> first|cases h|skip
   refine⟨_,ls,[],nd,[v],vs,h,rfl,h2,?_,(λ _ h=>by cases h),rfl⟩;unfold Tells;split <;> (try intro _) <;> (cases h1;rfl)
 | raw =>
  intro ls vs nd K h hl;rcases ls with _|⟨l,ls⟩
  ·cases h
  ·
   obtain⟨v,vs,rfl,h1,h2⟩:=hl
   cases l <;> first|cases h|skip
   case raw u =>
    obtain⟨rfl,h1'⟩:=h1;refine⟨_,ls,[],nd,[v],vs,h,rfl,h2,?_,(λ _ h=>by cases h),rfl⟩;unfold Tells;split <;> (try intro _) <;> exact⟨rfl,h1'⟩
   case nil =>
    have h1:v = .slice none 0 0:=h1;subst h1;refine⟨_,ls,[],nd,[.slice none 0 0],vs,h,rfl,h2,?_,(λ _ h=>by cases h),rfl⟩;unfold Tells;split <;> (try intro _) <;> exact⟨rfl,rfl⟩
 | sl e t _ =>
  intro ls vs nd K h hl;rcases ls with _|⟨l,ls⟩
  ·cases h
  ·
   obtain⟨v,vs,rfl,h1,h2⟩:=hl
   cases l <;> first|cases h|skip
   case sl t' xs =>
    simp only[toDen,ZaO]at h;obtain⟨hq,h⟩:=h
    cases he:Ty.eq? t' t with
    | none=>rw[he]at h;cases h
    | some hh =>
     rw[he]at h;obtain⟨hh⟩:=hh;subst hh;obtain⟨hnn,h⟩:=Zd8 h;refine⟨xs,ls,[],nd,[v],vs,h,rfl,h2,?_,(λ _ h=>by cases h),rfl⟩;obtain⟨A,c,rfl,hv⟩:=h1;unfold Tells
     split
     ·exact⟨A,c,rfl,hv,.of hnn⟩
     ·cases hq
     ·exact⟨A,c,rfl,hv.imp (λ _ h => .inl h) (λ _ _=>rfl) (λ p cs hp=>Rep.imp _ hp (λ _ h => .inl h) (λ _ h=>h) (λ _ _=>rfl) (λ _ _=>rfl)),.of hnn⟩
   case nil =>
    refine⟨_,ls,[],nd,[v],vs,h,rfl,h2,?_,(λ _ h=>by cases h),rfl⟩;have h1:v = .slice none 0 0:=h1;subst h1;have hz:∀(Z:Nat->Prop),Rep Z w false (.sl e t) ([]:List t.den) [.slice none 0 0] λ _=>False:=λ Z=>⟨none,0,rfl,⟨Nat.le_refl _,Nat.zero_le _,λ h=>absurd h (Nat.lt_irrefl _)⟩,λ _ _=>rfl⟩
    unfold Tells
    split
    ·exact hz _
    ·intro _;exact⟨_,rfl,⟨[],World.ownsRow_nil w 0 e t.size,(λ k hk=>by cases hk),λ _ _=>False,(λ j p hp=>by simp at hp),(λ _ _ h=>h.elim),λ _ _ _ _ h=>h.elim⟩,λ _ _=>rfl⟩
    ·exact hz _
   case own T =>
    simp only[toDen,ZaO,Zbu]at h;obtain⟨hq,o,ho,h⟩:=h
    cases o with
    | box _ _ _=>cases h
    | hole _ _ _ _=>cases h
    | row e' m t' xs =>
     simp only[ZaO]at h;obtain⟨hc,h⟩:=h;simp only[Bool.and_eq_true,Bool.or_eq_true]at hc;obtain⟨he', hc⟩:=hc;obtain rfl:=Nat.eq_of_beq_eq_true he'
     clear he'
     cases he:Ty.eq? t' t with
     | none=>rw[he]at h;cases h
     | some hh =>
      rw[he]at h;obtain⟨hh⟩:=hh;subst hh;obtain⟨hnn,h⟩:=Zd8 h;obtain⟨z,hz,hr⟩:=hm.obj T _ ho;obtain⟨z', hz', hv,_⟩:=h1;rw[hz]at hz'
      cases hz'
      subst hv;have hal:Alive ob [T]:=λ U hU=>by rw[List.mem_singleton.1 hU,ho];rfl
      refine⟨xs,ls,[T],_,[z.hdr],vs,h,rfl,h2,?_,hal,rfl⟩;have hF:∀k,z.F k->Of ρ [T] k:=λ k hk=>⟨T,z,List.mem_singleton.2 rfl,hz,hk⟩
      unfold Tells
      split
      ·cases hq
      ·
       intro _;rcases hc with hc|hc
       ·cases hc
       ·subst hc;exact⟨_,rfl,hr.imp hF (λ _ _=>rfl) (λ _ _ _ _ h=>h),.of hnn⟩
      ·
       cases m with
       | true =>
        have:=Rep.view (.sl e' t') (m:=true) (cs:=[z.hdr]) (λ _=>False) ⟨_,rfl,hr,.of hnn⟩;exact Rep.imp (.sl e' t') this (λ k hk=>hk.imp id (hF k)) (λ _ h=>h) (λ _ _=>rfl) (λ _ _=>rfl)
       | false =>
        obtain⟨inner,hown,hb,Fs,hel,_,_⟩:=hr;rcases Nat.eq_zero_or_pos (List.length xs)with h0|h0
        ·
         rcases hown.2 with ⟨hv,_⟩|⟨g,cap,cur,hv,_,_,hnc,hcm,_⟩
         ·exact⟨none,0,by rw[hv,h0],⟨by rw[h0];exact Nat.zero_le _,by rw[h0];exact Nat.zero_le _,λ hl=>by omega⟩,.of hnn⟩
         ·exact⟨some ⟨g,0,none⟩,cap,by rw[hv],⟨hnc,by simp only[maxLen]at hcm;omega,λ hl=>by omega⟩,.of hnn⟩
        ·
         obtain⟨g,cap,hv,hnc,hmx,hcells⟩:=ZbQ hown h0 (ZcF t');refine⟨some ⟨g,0,none⟩,cap,by rw[hv],⟨hnc,hmx,λ _=>⟨⟨g,0,none⟩,rfl,.inr (hF g (hb g (by rw[hv];rfl))),λ j p hp=>⟨(inner.drop (j*t'.size)).take t'.size,Rep.len t' (hel j p hp),?_,λ i u hu => ?_⟩⟩⟩,.of hnn⟩
         ·exact Rep.imp t' (Rep.noF t' (hel j p hp)) (λ k hk => .inl hk) (λ _ h=>h) (λ _ _=>rfl) (λ _ _=>rfl)
         ·rw[ZbJ,Nat.zero_add];exact(hcells _ u (Zcd hu)).1
 | pr a b iha ihb =>
  intro ls vs nd K h hl;obtain⟨x,ls1,c1,nd1,cs1,vs1,h1,rfl,hl1,ht1,ha1,hn1⟩:=iha ls vs nd _ h hl;obtain⟨y,ls2,c2,nd2,cs2,vs2,h2,rfl,hl2,ht2,ha2,hn2⟩:=ihb ls1 vs1 nd1 _ h1 hl1;refine⟨(x,y),ls2,c1++c2,nd2,cs1++cs2,vs2,h2,(List.append_assoc _ _ _).symm,hl2,?_,λ T hT=>(List.mem_append.1 hT).elim (ha1 T) (ha2 T),by rw[List.length_append,hn1,hn2];rfl⟩;have s1:∀k,Of ρ c1 k->Of ρ (c1++c2) k:=λ k ⟨T,z,h,r⟩=>⟨T,z,List.mem_append_left _ h,r⟩
  have s2:∀k,Of ρ c2 k->Of ρ (c1++c2) k:=λ k ⟨T,z,h,r⟩=>⟨T,z,List.mem_append_right _ h,r⟩
  unfold Tells at ht1 ht2 ⊢
  split at ht1
  ·exact⟨cs1,cs2,_,_,rfl,ht1,ht2,λ _ h=>h,λ _ h=>h,λ _ h=>h.elim⟩
  ·intro hn;obtain⟨d1,d2,d3⟩:=nodup_append hn;exact⟨cs1,cs2,_,_,rfl,ht1 d1,ht2 d2,s1,s2,λ k hk=>Of.sep hm ha1 ha2 d3 hk⟩
  ·
   rename_i hq0 hq1
   split at ht2
   ·exact absurd rfl hq0
   ·exact absurd rfl hq1
   ·exact⟨cs1,cs2,_,_,rfl,Rep.imp a ht1 (λ k hk=>hk.imp id (s1 k)) (λ _ h=>h) (λ _ _=>rfl) (λ _ _=>rfl),Rep.imp b ht2 (λ k hk=>hk.imp id (s2 k)) (λ _ h=>h) (λ _ _=>rfl) (λ _ _=>rfl),λ _ h=>h,λ _ h=>h,λ _ h=>h.elim⟩
end
section
variable {α : Type}
theorem ZbM {a b:Nat} (h:a≠b):Nat.beq a b=false:=by
 cases hb:Nat.beq a b with
 | true=>exact absurd (Nat.eq_of_beq_eq_true hb) h
 | false=>rfl
theorem lk_pt (T n:Nat) (a : α):∀l:List (Nat × α),lk T (pt n a l)=if T=n then some a else lk T l
 | []=>by
  by_cases h:T=n
  ·subst h;simp[pt,lk]
  ·simp[pt,lk,ZbM h,h]
 | (m,b) :: r=>by
  have ih:=lk_pt T n a r
  by_cases hm:n=m
  ·
   subst hm
   by_cases h:T=n
   ·subst h;simp[pt,lk]
   ·simp[pt,lk,ZbM h,h]
  ·
   by_cases h:T=m
   ·subst h;simp[pt,ZbM hm,lk,Ne.symm hm]
   ·simp[pt,ZbM hm,lk,ZbM h,ih]
theorem lk_rm (T n:Nat):∀l:List (Nat × α),lk T (rm n l)=if T=n then none else lk T l
 | []=>by simp[rm,lk]
 | (m,b) :: r=>by
  have ih:=lk_rm T n r
  by_cases hm:n=m
  ·
   subst hm
   by_cases h:T=n
   ·subst h;simp only[rm,Nat.beq_refl,cond_true,ih,if_true]
   ·simp[rm,ih,h,lk,ZbM h]
  ·
   by_cases h:T=n
   ·subst h;simp[rm,ZbM hm,lk,ih]
   ·simp[rm,ZbM hm,lk,ih,h]
theorem Zca (T:Nat):∀(c:List Nat) (l:List (Nat × α)),lk T (rms c l)=if T∈c then none else lk T l
 | [],l=>by simp[rms]
 | n :: c,l=>by
  rw[rms,Zca T c,lk_rm]
  by_cases h:T∈c <;> by_cases h' : T=n <;> simp[h,h']
theorem ZbA {T:Nat}:∀{l:List (Nat × α)},T∈keys l↔(lk T l).isSome=true
 | []=>by simp[keys,lk]
 | (m,b) :: r=>by
  by_cases h:T=m
  ·subst h;simp[keys,lk]
  ·simp[keys,lk,ZbM h,h,ZbA (l:=r)]
theorem ZdS (T:Nat):∀(a l:List (Nat × α)),nodup (keys a)=true->lk T (pts a l)=match lk T a with
  | some o=>some o
  | none=>lk T l
 | [],l,_=>by simp[pts,lk]
 | (n,o) :: a,l,hn=>by
  simp only[keys,nodup,Bool.and_eq_true,Bool.not_eq_true', List.contains_eq_mem,decide_eq_false_iff_not]at hn;rw[pts,ZdS T a _ hn.2]
  by_cases h:T=n
  ·
   subst h;have:lk T a=none:=by
    cases hl:lk T a with
    | none=>rfl
    | some o' => exact absurd (ZbA.2 (by rw[hl];rfl)) hn.1
   simp[this,lk_pt,lk]
  ·simp[lk,ZbM h,lk_pt,h]
end
def upd (ρ : Rz) (n:Nat) (z:Rzv):Rz:=λ T=>if T=n then some z else ρ T
section
variable {P:Program} {B:Nat->Prop} {ρ ρ' : Rz} {Z Z' : Nat->Prop} {w w' : World}
theorem OR.fut {o:Ob} {z:Rzv} (h:OR P B ρ Z w o z) (hf:Fut B ρ Z w ρ' Z' w') (hs:ZbL z.F w w'):OR P B ρ' Z' w' o z:=by
 cases o with
 | box t ro cells =>
  obtain⟨g,vs,h1,h2,h3,h4,h5,h6⟩:=h;have hg:w'.heap[g]? = w.heap[g]? := by
   cases ro with
   | false=>exact hs g (h5 rfl)
   | true=>exact hf.sameB g (h6 rfl)
  exact⟨g,vs,h1,hg.trans h2,h3.fut hf,h4,h5,h6⟩
 | row e m t xs =>
  exact Zch.imp h (λ _ h=>h) hs λ p cs G hG hp=>Rep.imp t hp hf.zm (λ _ h=>h) hf.same λ k hk=>hs k (hG k hk)
 | hole e t xs hl =>
  obtain⟨inner,h2,h3,h4,h4', Fs,h5,h6,h7⟩:=h;exact⟨inner,Zic h2 λ k hk=>hs k (h3 k hk),h3,h4,λ j n hj=>by obtain⟨v,⟨zn,k1,k2,k3⟩,k4⟩:=h4' j n hj;obtain⟨z', h8,h9⟩:=hf.hdr n zn k1;exact⟨v,⟨z', h8,h9.trans k2,k3⟩,k4⟩,Fs,λ i p hi hp=>Rep.imp t (h5 i p hi hp) hf.zm (λ _ h=>h) hf.same λ k hk=>hs k (h6 i k hi hk).1,h6,h7⟩
theorem Zia {ob ob' : Obs} (hm:Mem P B ρ Z ob w) (X:Nat->Prop) (hf:Fut B ρ Z w ρ' Z' w')
  (h1:∀T,¬ X T->ob' T=ob T\/ob' T=none) (h2:∀T,¬ X T -> ρ' T = ρ T)
  (h3:∀T z,¬ X T->(ob' T).isSome=true -> ρ T=some z->ZbL z.F w w' /\ ∀k,z.F k->¬ Z' k)
  (h4:∀T o,X T->ob' T=some o->∃z,ρ' T=some z/\OR P B ρ' Z' w' o z)
  (h5:∀T z k,X T->(ob' T).isSome=true -> ρ' T=some z->z.F k->k < w'.heap.size/\(¬ Z' k/\¬ B k)/\∀T' z', T' ≠ T->(ob' T').isSome=true -> ρ' T' = some z' -> ¬ z'.F k)
  (hsz:w.heap.size<=w'.heap.size) (hz:∀k,Z' k->k < w'.heap.size):Mem P B ρ' Z' ob' w' where
 obj:=λ T o ho=>by
  by_cases hX:X T
  ·exact h4 T o hX ho
  ·
   rcases h1 T hX with h|h
   ·rw[h]at ho;obtain⟨z,hz1,hz2⟩:=hm.obj T o ho;exact⟨z,(h2 T hX).trans hz1,hz2.fut hf (h3 T z hX (by rw[h,ho];rfl) hz1).1⟩
   ·rw[h]at ho;cases ho
 sep := λ T T' z z' k hne hT hT' hz1 hz2 hk hk' => by
  by_cases hX:X T
  ·exact(h5 T z k hX hT hz1 hk).2.2 T' z' (Ne.symm hne) hT' hz2 hk'
  ·
   by_cases hX' : X T'
   ·exact(h5 T' z' k hX' hT' hz2 hk').2.2 T z hne hT hz1 hk
   ·
    rcases h1 T hX with h|h
    ·
     rcases h1 T' hX' with h' | h'
     ·exact hm.sep T T' z z' k hne (h ▸ hT) (h' ▸ hT') ((h2 T hX).symm.trans hz1) ((h2 T' hX').symm.trans hz2) hk hk'
     ·rw[h']at hT';cases hT'
    ·rw[h]at hT;cases hT
 zsep:=λ k ⟨T,z,hT,hz1,hk⟩=>by
  by_cases hX:X T
  ·exact⟨(h5 T z k hX hT hz1 hk).2.1.1,(h5 T z k hX hT hz1 hk).1⟩
  ·
   have hr:=(h2 T hX).symm.trans hz1;refine⟨(h3 T z hX hT hr).2 k hk,?_⟩;rcases h1 T hX with h|h
   ·exact Nat.lt_of_lt_of_le (hm.zsep k ⟨T,z,h ▸ hT,hr,hk⟩).2 hsz
   ·rw[h]at hT;cases hT
 zlt:=hz
 bsep:=λ k ⟨T,z,hT,hz1,hk⟩=>by
  by_cases hX:X T
  ·exact(h5 T z k hX hT hz1 hk).2.1.2
  ·
   rcases h1 T hX with h|h
   ·exact hm.bsep k ⟨T,z,h ▸ hT,(h2 T hX).symm.trans hz1,hk⟩
   ·rw[h]at hT;cases hT
 blt:=λ k hk=>Nat.lt_of_lt_of_le (hm.blt k hk) hsz
theorem Of.own {ob:List (Nat×Ob)} {c:List Nat} {k:Nat} (ha:Alive ob c) (h:Of ρ c k):Own ρ (look ob) k:=by obtain⟨T,z,h1,h2,h3⟩:=h;exact⟨T,z,ha T h1,h2,h3⟩
theorem Ze6 {ob:List (Nat×Ob)} (hm:Mem P B ρ Z (look ob) w) {n:Nat} {o:Ob} {z:Rzv} {c del:List Nat} (hc:Alive ob c) (hcd:∀T∈c,T=n\/T∈del) (hnd:n ∉ del)
  (hn:∀z0,ρ n=some z0->z0.hdr=z.hdr) (hos:w'.os=w.os) (htape:w'.tape=w.tape) (hout:w'.output=w.output) (hsz:w.heap.size<=w'.heap.size)
  (hdead:(lk n ob).isSome=true->∀z0,ρ n=some z0->∀k,z0.F k->Of ρ c k)
  (hchg:∀k,k < w.heap.size->¬ Of ρ c k->w'.heap[k]? = w.heap[k]?)
  (hF:∀k,z.F k->(Of ρ c k\/w.heap.size<=k)/\k < w'.heap.size) (ho:OR P B (upd ρ n z) Z w' o z) :
  Mem P B (upd ρ n z) Z (look (pts [(n,o)] (rms del ob))) w' /\ Trn ρ Z (look ob) w (upd ρ n z) Z (look (pts [(n,o)] (rms del ob))) w' := by
 have hlk:∀T,look (pts [(n,o)] (rms del ob)) T=if T=n then some o else if T∈del then none else lk T ob:=λ T=>by show lk T (pts [(n,o)] (rms del ob))=_;rw[pts,pts,lk_pt,Zca]
 have hhdr:∀T z0,ρ T=some z0->∃z', upd ρ n z T=some z' /\ z'.hdr=z0.hdr:=λ T z0 h=>by
  unfold upd
  by_cases hT:T=n
  ·subst hT;exact⟨z,if_pos rfl,(hn z0 h).symm⟩
  ·exact⟨z0,by rw[if_neg hT];exact h,rfl⟩
 have hzs:ZbL Z w w' := λ k hk=>hchg k (hm.zlt k hk) λ h=>(hm.zsep k (h.own hc)).1 hk
 have hbs:ZbL B w w' := λ k hk=>hchg k (hm.blt k hk) λ h=>hm.bsep k (h.own hc) hk
 have hf:Fut B ρ Z w (upd ρ n z) Z w' := ⟨λ _ h=>h,hzs,hbs,hhdr⟩;have key:∀T z0,T≠n->(look (pts [(n,o)] (rms del ob)) T).isSome=true -> ρ T=some z0->(lk T ob).isSome=true/\T ∉ del/\∀k,z0.F k->¬ Of ρ c k:=λ T z0 hT hs hr=>by
  rw[hlk,if_neg hT]at hs
  by_cases hd:T∈del
  ·rw[if_pos hd]at hs;cases hs
  ·rw[if_neg hd]at hs;refine⟨hs,hd,λ k hk hof => ?_⟩;obtain⟨T', z', h1,h2,h3⟩:=hof;refine hm.sep T T' z0 z' k (λ e => ?_) hs (hc T' h1) hr h2 hk h3;subst e;exact(hcd T h1).elim hT hd
 refine⟨Zia hm (λ T=>T=n) hf (λ T hT => ?_) (λ T hT=>if_neg hT) (λ T z0 hT hs hr => ?_) (λ T o' hT ho' => ?_) (λ T z0 k hT hs hr hk => ?_) hsz (λ k hk=>Nat.lt_of_lt_of_le (hm.zlt k hk) hsz),?_⟩
 ·
  rw[hlk,if_neg hT]
  by_cases hd:T∈del
  ·exact .inr (if_pos hd)
  ·exact .inl (if_neg hd)
 ·obtain⟨k1,k2,k3⟩:=key T z0 hT hs hr;refine⟨λ k hk=>hchg k (hm.zsep k ⟨T,z0,k1,hr,hk⟩).2 (k3 k hk),λ k hk=>(hm.zsep k ⟨T,z0,k1,hr,hk⟩).1⟩
 ·
  subst hT;rw[hlk,if_pos rfl]at ho'
  cases ho'
  exact⟨z,if_pos rfl,ho⟩
 ·
  subst hT;have hz0:z0=z:=by unfold upd at hr;rw[if_pos rfl]at hr;exact(Option.some.inj hr).symm
  subst hz0;obtain⟨h1,h2⟩:=hF k hk;refine⟨h2,⟨λ hZ => ?_,λ hB => ?_⟩,λ T' z' hT' hs' hr' hk' => ?_⟩
  ·
   rcases h1 with h1|h1
   ·exact(hm.zsep k (h1.own hc)).1 hZ
   ·exact absurd (hm.zlt k hZ) (by omega)
  ·
   rcases h1 with h1|h1
   ·exact hm.bsep k (h1.own hc) hB
   ·exact absurd (hm.blt k hB) (by omega)
  ·
   have hr'' : ρ T' = some z' := by unfold upd at hr';rwa[if_neg hT']at hr'
   obtain⟨k1,k2,k3⟩:=key T' z' hT' hs' hr'';rcases h1 with h1|h1
   ·exact k3 k hk' h1
   ·have:=(hm.zsep k ⟨T', z', k1,hr'', hk'⟩).2;omega
 ·
  refine⟨hos,htape,hout,hsz,λ k hk hno=>hchg k hk λ h=>hno (h.own hc),λ k hk => ?_,λ k hk => .inl hk,λ _ h=>h,hhdr⟩;obtain⟨T,z0,hs,hr,hk⟩:=hk
  by_cases hT:T=n
  ·
   subst hT;have hz0:z0=z:=by unfold upd at hr;rw[if_pos rfl]at hr;exact(Option.some.inj hr).symm
   subst hz0;rcases(hF k hk).1 with h1|h1
   ·exact .inl (h1.own hc)
   ·exact .inr h1
  ·unfold upd at hr;rw[if_neg hT]at hr;exact .inl ⟨T,z0,(key T z0 hT hs hr).1,hr,hk⟩
end
def zcells:Ty->List Value
 | .int k=>[.int k 0]
 | .bool=>[.bool false]
 | .str=>[.string ByteArray.empty]
 | .raw=>[.slice none 0 0]
 | .sl _ _=>[.slice none 0 0]
 | .pr a b=>zcells a++zcells b
def ZkZ (P:Program) (t:TypeId):TK->Prop
 | .int k=>P.underlying t=some (.int k)
 | .bool=>P.underlying t=some .bool
 | .str=>P.underlying t=some .string
 | .sl e=>P.underlying t=some (.slice e)
 | .st fs=>∃fields:Array Field,P.underlying t=some (.struct fields)/\fields.toList.map (λ f=>(f.offset,f.type))=fs/\∃places,fields.toList.mapM (λ f=>(P.info? f.type).map λ i=>(f.offset,i.size))=some places
 | .other=>∃d,P.underlying t=some d/\(match d with | .struct _ | .array _ _=>False|_=>True)
structure TiOk (P:Program) (t:TypeId) (i:TI):Prop where
 kind:ZkZ P t i.kind
 info:∃info,P.info? t=some info/\info.size=i.size/\info.bytes=i.bytes/\(i.zero.length=i.size->i.size≠0->∃z,info.zero=some z/\Zd5 z.cells.toList=some i.zero/\(i.el=true->z.cells.toList=zcells i.ty))
def TtOk (P:Program) (tt:List (Nat×TI)):Prop:=∀t i,lk t tt=some i->TiOk P t i
section
variable {P:Program}
theorem Zce {t:TypeId} {i:TI} (h:TiOk P t i) (w:World):(sizeOf t).run P w = .ok i.size w:=by obtain⟨info,h1,h2,_⟩:=h.info;simp[sizeOf,typeInfo,h1,h2]
theorem Zd0 {t:TypeId} {i:TI} (h:TiOk P t i) (w:World) {fs:List (Nat×TypeId)} (hk:i.kind = .st fs):(isAgg t).run P w = .ok true w:=by have:=h.kind;rw[hk]at this;obtain⟨fields,h1,_⟩:=this;simp[isAgg,run_underlying h1]
theorem Zcb {t:TypeId} {i:TI} (h:TiOk P t i) (w:World) (hk:∀fs,i.kind ≠ .st fs):(isAgg t).run P w = .ok false w:=by
 have hh:=h.kind
 cases hi:i.kind with
 | st fs=>exact absurd hi (hk fs)
 | int k=>rw[hi]at hh;have hh:P.underlying t=_:=hh;simp[isAgg,run_underlying hh]
 | bool=>rw[hi]at hh;have hh:P.underlying t=_:=hh;simp[isAgg,run_underlying hh]
 | str=>rw[hi]at hh;have hh:P.underlying t=_:=hh;simp[isAgg,run_underlying hh]
 | sl e=>rw[hi]at hh;have hh:P.underlying t=_:=hh;simp[isAgg,run_underlying hh]
 | other =>
  rw[hi]at hh;obtain⟨d,h1,h2⟩:=hh
  cases d <;> simp[isAgg,run_underlying h1]at h2 ⊢
def Gives (P:Program) (s:Sem Value) (w:World) (R:Value->World->Prop):Prop:=∃v w', s.run P w = .ok v w' /\ R v w'
variable {B:Nat->Prop} {ρ : Rz} {Z:Nat->Prop} {ob:List (Nat×Ob)} {w:World}
def Done (P:Program) (B:Nat->Prop) (ρ : Rz) (Z:Nat->Prop) (ob:List (Nat×Ob)) (w:World) (e:Eff) (v:Value) (w' : World):Prop :=
 ∃ρ' Z', Mem P B ρ' Z' (look (pts e.add (rms e.del ob))) w' /\ Trn ρ Z (look ob) w ρ' Z' (look (pts e.add (rms e.del ob))) w' /\ AR P B ρ' Z' w' e.v v/\∀T,ρ T=none->T ∉ keys e.add -> ρ' T=none
theorem ZcD (hm:Mem P B ρ Z (look ob) w) {av:AV} {v:Value} (h:AR P B ρ Z w av v):Done P B ρ Z ob w ⟨av,[],[]⟩ v w :=
 ⟨ρ,Z,hm,Trn.refl _ _ _ _,h,λ _ h _=>h⟩
variable {β : Type} {KK:Eff->List Nat->Option β} {nd:List Nat} {r : β}
def Says (P:Program) (B:Nat->Prop) (ρ : Rz) (Z:Nat->Prop) (ob:List (Nat×Ob)) (w:World) (KK:Eff->List Nat->Option β) (r : β) (s:Sem Value):Prop :=
 ∃e nd', KK e nd' = some r/\Gives P s w (Done P B ρ Z ob w e)
theorem Z7 (hm:Mem P B ρ Z (look ob) w) {av:AV} {v:Value} {s:Sem Value} (h:(ok av [] []).run ob KK nd=some r) (hs:s.run P w = .ok v w) (hv:AR P B ρ Z w av v):Says P B ρ Z ob w KK r s :=
 ⟨_,nd,h,v,w,hs,ZcD hm hv⟩
theorem LRs.one_inv {l:Lf} {vs:List Value} (h:LRs P B ρ Z w [l] vs):∃v,vs=[v]/\LR P B ρ Z w l v:=by
 obtain⟨v,vs', rfl,h1,h2⟩:=h
 cases h2
 exact⟨v,rfl,h1⟩
theorem add_zero (a:Addr):a.add 0=a:=by unfold Addr.add;simp
theorem ZdT (hm:Mem P B ρ Z (look ob) w) {t:TypeId} {i:TI} (ht:TiOk P t i) {ls:List Lf} {vs:List Value} {ad:Addr} (h:(Zf9 i ls).run ob KK nd=some r) (hl:LRs P B ρ Z w ls vs) (hc:∀j u,vs[j]? = some u->w.cell? (ad.add j)=some u):Says P B ρ Z ob w KK r (Instr.loadAt t (.pointer (some ad))):=by
 unfold Zf9 at h
 split at h
 ·
  rename_i fs hk
  rw[ZaO]at h;obtain⟨hn,h⟩:=h;have hn:=Nat.eq_of_beq_eq_true hn;have hsz:vs.length=i.size:=by rw[hl.len,hn]
  have hr:=run_loadCells_list (P:=P) w ad vs hc;rw[hsz]at hr;refine Z7 hm h (v := .agg vs.toArray) ?_ ⟨vs,rfl,hl⟩;simp[Instr.loadAt,Instr.sureAddr,loadVar,Zd0 ht w hk,Zce ht,hr]
 ·
  rename_i hk
  split at h
  ·obtain⟨v,rfl,hv⟩:=hl.one_inv;refine Z7 hm h (v:=v) ?_ hv;have hc0:=hc 0 v rfl;rw[add_zero]at hc0;simp[Instr.loadAt,Instr.sureAddr,loadVar,Zcb ht w (λ fs hf=>hk fs hf),hc0]
  ·cases h
theorem ZdQ {Z:Nat->Prop}:∀(t:Ty) {x:t.den} {cs:List Value} {F:Nat->Prop},Rep Z w false t x cs F->LRs P B ρ Z w (leaves t x) cs
 | .int _,_,_,_,h=>by cases h;exact⟨_,[],rfl,rfl,rfl⟩
 | .bool,x,_,_,h=>by
  cases h
  refine⟨_,[],rfl,?_,rfl⟩;show _=Value.bool (bval false (x=true) _);unfold bval
  cases x <;> rfl
 | .str,_,_,_,h=>by cases h;exact⟨_,[],rfl,rfl,rfl⟩
 | .raw,_,_,_,h=>by obtain⟨rfl,h1⟩:=h;exact⟨_,[],rfl,⟨rfl,h1⟩,rfl⟩
 | .sl e t,_,_,_,h=>by obtain⟨A,c,rfl,hv,_⟩:=h;exact⟨_,[],rfl,⟨A,c,rfl,hv⟩,rfl⟩
 | .pr a b,_,_,_,h=>by obtain⟨c0,c1,F0,F1,rfl,h0,h1,_⟩:=h;exact(ZdQ a h0).append (ZdQ b h1)
theorem rd_get {t:Ty} {xs:List t.den} {j:Int} (h0:0<=j) (h1:j < (List.length xs:Int)):xs[j.toNat]? = some (t.rd xs j):=by
 have hl:j.toNat < xs.length:=by omega
 unfold Ty.rd;rw[List.getD_eq_getElem?_getD,List.getElem?_eq_getElem hl]
 rfl
theorem ZeP {vs:List Value} {off n j:Nat} {u:Value} (h:((vs.drop off).take n)[j]? = some u):vs[off+j]? = some u:=Zcd h
theorem Zga (hm:Mem P B ρ Z (look ob) w) {E:Env} (hE:TtOk P E.tt) {t:TypeId} {x:AV} {v:Value} (h:(pLoad E t x).run ob KK nd=some r) (hx:AR P B ρ Z w x v):Says P B ρ Z ob w KK r (Instr.loadAt t v):=by
 unfold pLoad at h
 split at h
 ·
  rename_i T off
  split at h
  ·
   rename_i i hi
   rw[Zbu]at h;obtain⟨o,ho,h⟩:=h
   split at h
   ·
    rename_i bt ro cells
    obtain⟨z,hz,g,vs,h1,h2,h3,h4,h5,h6⟩:=hm.obj T _ ho;obtain⟨z', g', hz', hg', rfl⟩:=hx;rw[hz]at hz'
    cases hz'
    rw[h1]at hg'
    cases hg'
    refine ZdT hm (hE t i hi) h ((h3.drop off).take i.size) λ j u hu => ?_
    rw[ZbJ,cell_of_row w g (off+j) vs.toArray bt (0,0) h2]
    simpa using ZeP hu
   ·cases h
  ·cases h
 ·
  rename_i T j sz off
  split at h
  ·
   rename_i i hi
   rw[Zbu]at h;obtain⟨o,ho,h⟩:=h
   split at h
   ·
    rename_i e m t' xs
    rw[ZaO,ZZ,ZZ]at h;obtain⟨hfl,h0,h1,h⟩:=h;simp only[Bool.and_eq_true,Bool.or_eq_true,Bool.not_eq_true']at hfl;obtain⟨hfl,hsz⟩:=hfl;have hsz:=Nat.eq_of_beq_eq_true hsz;subst hsz;obtain⟨z,hz,inner,hown,hb,Fs,hel,_,_⟩:=hm.obj T _ ho;obtain⟨z', g,n,c,hz', hg', hj0,hjn,rfl⟩:=hx;rw[hz]at hz'
    cases hz'
    obtain⟨g', cap,hv,hnc,hmx,hcells⟩:=ZbQ hown (by omega) (ZcF t');rw[hg']at hv
    cases hv
    have hp:=hel j.toNat _ (rd_get h0 h1);have hrep:Rep Z w false t' (t'.rd xs j) ((inner.drop (j.toNat*t'.size)).take t'.size) λ _=>False:=by
     rcases hfl with hfl|hfl
     ·subst hfl;exact Rep.noF t' hp
     ·exact Rep.flat t' hfl hp
    refine ZdT hm (hE t i hi) h (((ZdQ t' hrep).drop off).take i.size) λ k u hu => ?_
    rw[ZbJ];have h2:=Zcd (ZeP hu);rw[show j.toNat*t'.size+off+k=j.toNat*t'.size+(off+k)by omega];exact(hcells _ u h2).1
   ·cases h
  ·cases h
 ·
  rename_i t' y off
  split at h
  ·
   rename_i i hi
   obtain⟨ad,cs,rfl,hz,hrep,hcc⟩:=hx;refine ZdT hm (hE t i hi) h (((ZdQ t' hrep).drop off).take i.size) λ k u hu => ?_
   rw[ZgY];exact hcc _ u (ZeP hu)
  ·cases h
 ·cases h
theorem Zih (hm:Mem P B ρ Z (look ob) w) {E:Env} (hE:TtOk P E.tt) {t:TypeId} {x:AV} {v:Value} {n:Nat} (h:(ZlW E t x n).run ob KK nd=some r) (hx:AR P B ρ Z w x v):Says P B ρ Z ob w KK r (Instr.field t v n):=by
 unfold ZlW at h
 split at h
 ·
  rename_i i hi
  split at h
  ·
   rename_i fs hk
   split at h
   ·
    rename_i o ft hf
    split at h
    ·
     rename_i fi ls hfi
     obtain⟨vs,rfl,hl⟩:=hx;have hK:=(hE t i hi).kind;rw[hk]at hK;obtain⟨fields,hu,hmap,_⟩:=hK;have hnth:∀(l:List (Nat×TypeId)) (n:Nat),nthF l n=l[n]? := by
      intro l
      induction l with
      | nil=>intro n;cases n <;> rfl
      | cons a l ih=>intro n;cases n <;> simp[nthF,ih]
     rw[hnth,<-hmap,List.getElem?_map]at hf
     cases hfe:fields.toList[n]? with
     | none=>rw[hfe]at hf;cases hf
     | some fld =>
      rw[hfe]at hf;simp only[Option.map_some,Option.some.injEq,Prod.mk.injEq]at hf;obtain⟨rfl,rfl⟩:=hf;have hfa:fields[n]? = some fld:=by simpa using hfe
      unfold Zf9 at h;have hti:=hE fld.type fi hfi;have hl2:=(hl.drop fld.offset).take fi.size
      split at h
      ·
       rename_i fs' hk'
       rw[ZaO]at h;obtain⟨hn,h⟩:=h;refine Z7 hm h (v := .agg ((vs.drop fld.offset).take fi.size).toArray) ?_ ⟨_,rfl,hl2⟩;simp[Instr.field,run_underlying hu,hfa,part,asAgg,Zd0 hti w hk', Zce hti,List.extract_eq_take_drop]
      ·
       rename_i hk'
       split at h
       ·
        rename_i l hls
        rw[hls]at hl2;obtain⟨u,hu1,hu2⟩:=hl2.one_inv;refine Z7 hm h (v:=u) ?_ hu2;have hget:vs[fld.offset]? = some u:=by
         have:((vs.drop fld.offset).take fi.size)[0]? = some u:=by rw[hu1];rfl
         exact ZeP (off:=fld.offset) (j:=0) this
        simp[Instr.field,run_underlying hu,hfa,part,asAgg,Zcb hti w (λ fs hf=>hk' fs hf),hget]
       ·cases h
    ·cases h
   ·cases h
  ·cases h
 ·cases h
end
theorem wr_eq (k:IntKind) (x:Int):wr k x=k.wrap x:=by cases k <;> first|exact ZcW _|exact(ZcW _).trans (IntWalk.i64_left x).symm
section
variable {P:Program} {B:Nat->Prop} {ρ : Rz} {Z:Nat->Prop} {ob:List (Nat×Ob)} {w:World} {β : Type} {KK:Eff->List Nat->Option β} {nd:List Nat} {r : β}
theorem Zhh:∀(l:List (Nat×TypeId)) (n:Nat),nthF l n=l[n]?
 | [],n=>by cases n <;> rfl
 | a :: l,0=>rfl
 | a :: l,n+1=>by simp[nthF,Zhh l n]
theorem ZmR {t:TypeId} {i:TI} (ht:TiOk P t i) {fs:List (Nat×TypeId)} (hk:i.kind = .st fs) {n o:Nat} {ft:TypeId} (h:nthF fs n=some (o,ft)) :
  ∃(fields:Array Field) (fld:Field),P.underlying t=some (.struct fields)/\fields[n]? = some fld/\fld.offset=o/\fld.type=ft/\fields.toList.map (λ f=>(f.offset,f.type))=fs:=by
 have hK:=ht.kind;rw[hk]at hK;obtain⟨fields,hu,hmap,_⟩:=hK;rw[Zhh,<-hmap,List.getElem?_map]at h
 cases hfe:fields.toList[n]? with
 | none=>rw[hfe]at h;cases h
 | some fld =>
  rw[hfe]at h;simp only[Option.map_some,Option.some.injEq,Prod.mk.injEq]at h;exact⟨fields,fld,hu,by simpa using hfe,h.1,h.2,hmap⟩
theorem Zfr (hm:Mem P B ρ Z (look ob) w) {E:Env} (hE:TtOk P E.tt) {t:TypeId} {x:AV} {v:Value} {n:Nat} (h:(Ze9 E t x n).run ob KK nd=some r) (hx:AR P B ρ Z w x v):Says P B ρ Z ob w KK r (Instr.fieldAt t v n):=by
 unfold Ze9 at h
 split at h
 ·
  rename_i i hi
  split at h
  ·
   rename_i fs hk
   split at h
   ·
    rename_i o ft hf
    split at h
    ·
     rename_i fi hfi
     rw[ZaO]at h;obtain⟨hsz,h⟩:=h;obtain⟨fields,fld,hu,hfa,rfl,rfl,_⟩:=ZmR (hE t i hi) hk hf;have hs0:¬ fi.size=0:=by intro h0;rw[h0]at hsz;cases hsz
     have hrun:∀a:Addr,(Instr.fieldAt t (.pointer (some a)) n).run P w = .ok (.pointer (some (a.add fld.offset))) w:=λ a=>by simp[Instr.fieldAt,run_underlying hu,hfa,Instr.sureAddr,fieldPlace,Zce (hE _ fi hfi),hs0]
     split at h
     ·obtain⟨z,g,h1,h2,rfl⟩:=hx;exact Z7 hm h (hrun _) ⟨z,g,h1,h2,by rw[ZbJ]⟩
     ·obtain⟨z,g,m,c,h1,h2,h3,h4,rfl⟩:=hx;exact Z7 hm h (hrun _) ⟨z,g,m,c,h1,h2,h3,h4,by rw[ZbJ,Nat.add_assoc]⟩
     ·obtain⟨ad,cs,rfl,h2,h3,h4⟩:=hx;exact Z7 hm h (hrun _) ⟨ad,cs,by rw[ZgY],h2,h3,h4⟩
     ·cases h
    ·cases h
   ·cases h
  ·cases h
 ·cases h
theorem Zfs (hm:Mem P B ρ Z (look ob) w) {E:Env} (hE:TtOk P E.tt) {t:TypeId} {x ix:AV} {v vi:Value} (h:(Zfa E t x ix).run ob KK nd=some r) (hx:AR P B ρ Z w x v) (hix:AR P B ρ Z w ix vi):Says P B ρ Z ob w KK r (Instr.indexAt t v vi):=by
 unfold Zfa at h
 split at h
 ·
  rename_i i hi
  split at h
  ·
   rename_i e hk
   have hu:P.underlying t=some (.slice e):=by have:=(hE t i hi).kind;rw[hk]at this;exact this
   split at h
   ·
    rename_i ie k j hie
    cases hix
    have hse:=Zce (hE e ie hie)
    split at h
    ·
     rename_i t' xs
     rw[ZaO,ZZ,ZZ]at h;obtain⟨hsz,h0,h1,h⟩:=h;have hsz:=Nat.eq_of_beq_eq_true hsz;obtain⟨A,c,rfl,hl,hmx,hv⟩:=hx;obtain⟨ad,rfl,hz,hc⟩:=hv (by omega);obtain⟨cs,hcl,hrep,hcc⟩:=hc j.toNat _ (rd_get h0 h1);refine Z7 hm h (v := .pointer (some (ad.add (j.toNat*t'.size)))) ?_ ⟨ad.add (j.toNat*t'.size),cs,by rw[add_zero],by rw[ZdI];exact hz,hrep,λ i u hu=>by rw[ZgY];exact hcc i u hu⟩;simp[Instr.indexAt,asIntOf,run_underlying hu,h0,h1,hse,hsz]
    ·
     rename_i T
     rw[Zbu]at h;obtain⟨o,ho,h⟩:=h
     split at h
     ·
      rename_i e' m t' xs
      rw[ZaO,ZZ,ZZ]at h;obtain⟨hsz,h0,h1,h⟩:=h;have hsz:=Nat.eq_of_beq_eq_true hsz;obtain⟨z,hz,inner,hown,_⟩:=hm.obj T _ ho;obtain⟨z', hz', rfl,_⟩:=hx;rw[hz]at hz'
      cases hz'
      obtain⟨g,cap,hv,hnc,hmx,hcells⟩:=ZbQ hown (by omega) (ZcF t');refine Z7 hm h (v := .pointer (some ⟨g,j.toNat*t'.size,none⟩)) ?_ ⟨z,g,_,cap,hz,hv,h0,h1,rfl⟩;rw[hv];simp[Instr.indexAt,asIntOf,run_underlying hu,h0,h1,hse,hsz,ZbJ]
     ·
      rename_i e' t' xs hl
      rw[ZaO,ZZ,ZZ]at h;obtain⟨hsz,h0,h1,h⟩:=h;have hsz:=Nat.eq_of_beq_eq_true hsz;obtain⟨z,hz,inner,hown,_⟩:=hm.obj T _ ho;obtain⟨z', hz', rfl,_⟩:=hx;rw[hz]at hz'
      cases hz'
      obtain⟨g,cap,hv,hnc,hmx,hcells⟩:=ZbQ hown (by omega) (ZcF t');refine Z7 hm h (v := .pointer (some ⟨g,j.toNat*t'.size,none⟩)) ?_ ⟨z,g,_,cap,hz,hv,h0,h1,rfl⟩;rw[hv];simp[Instr.indexAt,asIntOf,run_underlying hu,h0,h1,hse,hsz,ZbJ]
     ·cases h
    ·
     rename_i T j0
     rw[Zbu]at h;obtain⟨o,ho,h⟩:=h
     split at h
     ·
      rename_i e' m t' xs
      rw[ZaO,ZZ,ZZ]at h;obtain⟨hsz,h0,h1,h⟩:=h;simp only[Bool.and_eq_true]at hsz;have hsz1:=Nat.eq_of_beq_eq_true hsz.1;have hsz2:=Nat.eq_of_beq_eq_true hsz.2;obtain⟨z,hz,inner,hown,_⟩:=hm.obj T _ ho;obtain⟨z', g,n,cap,hz', hv,hjn,rfl⟩:=hx;rw[hz]at hz'
      cases hz'
      obtain⟨g', cap', hv', hnc,hmx,hcells⟩:=ZbQ hown (by omega) (ZcF t');rw[hv]at hv'
      cases hv'
      refine Z7 hm h (v := .pointer (some ⟨g,((j0:Int)+j).toNat*1+0,none⟩)) ?_ ⟨z,g,_,cap,hz,hv,by omega,h1,rfl⟩;have hcj:¬ cap=j0:=by omega
      have h2:j < (xs.length:Int) - (j0:Int):=by omega
      have h3:j < ((xs.length - j0:Nat):Int):=by omega
      have e3:((j0:Int)+j).toNat=j0+j.toNat:=by omega
      simp[Instr.indexAt,asIntOf,run_underlying hu,h0,h3,hse,hsz2,sliced,hcj,ZbJ,e3]
     ·cases h
    ·cases h
   ·cases h
  ·cases h
 ·cases h
theorem ZkJ (hm:Mem P B ρ Z (look ob) w) {op:BinOp} {tx:TypeId} {x y:AV} {vx vy:Value} {xo yo:Operand} (h:(pBin op x y).run ob KK nd=some r) (hx:AR P B ρ Z w x vx) (hy:AR P B ρ Z w y vy):Says P B ρ Z ob w KK r (do eqGuard op tx xo yo vx vy;binOp op tx vx vy):=by
  unfold pBin at h
  split at h
  · rename_i k a k' b
    cases hx
    cases hy
    have hg:∀op,(eqGuard op tx xo yo (.int k a) (.int k' b)).run P w = .ok () w:=λ op=>by
      unfold eqGuard
      split <;> simp
    split at h
    · rw[run_test]at h
      rcases h with ⟨_,h⟩|⟨h0,h⟩
      · cases h
      · refine Z7 hm h (v := .int k (shlI k a b)) ?_ rfl
        simp[hg,binOp,Op.shift,shlI,ZcW,wr_eq,h0]
    · rw[run_test]at h
      rcases h with ⟨_,h⟩|⟨h0,h⟩
      · cases h
      · refine Z7 hm h (v := .int k (shrI k a b)) ?_ rfl
        simp[hg,binOp,Op.shift,shrI,ZcW,h0]
    unfold pBinK at h;rw[ZaO]at h;obtain⟨hk,h⟩:=h;obtain rfl:=ZeE hk
    cases op <;> first|(cases h;done)|skip
    all_goals first
      | (refine Z7 hm h (v := .int k (wr k (a+b))) ?_ rfl;simp[hg,binOp,Op.intArith,wr_eq];done)
      | (refine Z7 hm h (v := .int k (wr k (a - b))) ?_ rfl;simp[hg,binOp,Op.intArith,wr_eq];done)
      | (refine Z7 hm h (v := .int k (wr k (a*b))) ?_ rfl;simp[hg,binOp,Op.intArith,wr_eq];done)
      | (refine Z7 hm h (v := .int k (andI k a b)) ?_ rfl;simp[hg,binOp,Op.intBits,andI,ZcW,wr_eq];done)
      | (refine Z7 hm h (v := .int k (orI k a b)) ?_ rfl;simp[hg,binOp,Op.intBits,orI,ZcW,wr_eq];done)
      | (refine Z7 hm h (v := .int k (xorI k a b)) ?_ rfl;simp[hg,binOp,Op.intBits,xorI,ZcW,wr_eq];done)
      | (refine Z7 hm h (v := .int k (ZiF k a b)) ?_ rfl;simp[hg,binOp,Op.intBits,ZiF,ZcW,wr_eq];done)
      | (rw[run_test]at h
         rcases h with ⟨_,h⟩|⟨h0,h⟩
         · cases h
         · first
           | (refine Z7 hm h (v := .int k (wr k (a.tdiv b))) ?_ rfl;simp[hg,binOp,Op.intDiv,wr_eq,h0];done)
           | (refine Z7 hm h (v := .int k (a.tmod b)) ?_ rfl;simp[hg,binOp,Op.intDiv,wr_eq,h0];done))
      | (refine Z7 hm h (v := .bool (decide (a=b))) ?_ rfl;simp[hg,binOp,Op.intCmp];by_cases hab:a=b <;> simp[hab];done)
      | (refine Z7 hm h (v := .bool (!decide (a=b))) ?_ rfl;simp[hg,binOp,Op.intCmp];by_cases hab:a=b <;> simp[hab];done)
      | (refine Z7 hm h (v := .bool (decide (a < b))) ?_ rfl;simp[hg,binOp,Op.intCmp];done)
      | (refine Z7 hm h (v := .bool (decide (a<=b))) ?_ rfl;simp[hg,binOp,Op.intCmp];done)
      | (refine Z7 hm h (v := .bool (decide (a > b))) ?_ rfl;simp[hg,binOp,Op.intCmp];done)
      | (refine Z7 hm h (v := .bool (decide (a>=b))) ?_ rfl;simp[hg,binOp,Op.intCmp];done)
  · cases h
theorem Zl1 (hm:Mem P B ρ Z (look ob) w) {op:UnOp} {x:AV} {vx:Value} (h:(pUn op x).run ob KK nd=some r) (hx:AR P B ρ Z w x vx):Says P B ρ Z ob w KK r (Op.unary op vx):=by
 unfold pUn at h
 split at h
 ·
  rename_i n p d
  cases hx
  cases op <;> first|(cases h;done)|skip
  refine Z7 hm h (v := .bool (!(bval n p d))) (by simp[Op.unary]) ?_;show _=Value.bool _;unfold bval
  cases n <;> simp
 ·
  rename_i k a
  cases hx
  cases op <;> first|(cases h;done)|skip
  exact Z7 hm h (v := .int k (wr k (0 - a))) (by simp[Op.unary,Op.intArith,wr_eq]) rfl
 ·cases h
theorem Zgq (hm:Mem P B ρ Z (look ob) w) {n:Nat} {x:AV} {vx:Value} (h:(Zhk n x).run ob KK nd=some r) (hx:AR P B ρ Z w x vx):Says P B ρ Z ob w KK r (Instr.extract vx n):=by
 unfold Zhk at h
 split at h
 ·
  rename_i ps
  obtain⟨vs,rfl,ht⟩:=hx;have key:∀(ps:List (Bool×List Lf)) (vs:List Value) (n:Nat) (b:Bool) (ls:List Lf),TupR P B ρ Z w ps vs->ps[n]? = some (b,ls)->∃v cs,vs[n]? = some v/\LRs P B ρ Z w ls cs/\(bif b then v = .agg cs.toArray else cs=[v]):=by
   intro ps
   induction ps with
   | nil=>intro vs n b ls _ h;cases h
   | cons p ps ih =>
    intro vs n b ls ht h;obtain⟨v,vs', cs,rfl,h1,h2,h3⟩:=ht
    cases n with
    | zero=>cases h;exact⟨v,cs,rfl,h1,h2⟩
    | succ n=>exact ih vs' n b ls h3 h
  split at h
  ·
   rename_i l hp
   obtain⟨v,cs,hv,hl,hb⟩:=key ps vs n _ _ ht hp;have hb:cs=[v]:=hb;subst hb;obtain⟨v', he,hl'⟩:=hl.one_inv
   cases he
   exact Z7 hm h (v:=v) (by simp[Instr.extract,hv]) hl'
  ·
   rename_i ls hp
   obtain⟨v,cs,hv,hl,hb⟩:=key ps vs n _ _ ht hp;have hb:v = .agg cs.toArray:=hb;subst hb;exact Z7 hm h (v := .agg cs.toArray) (by simp[Instr.extract,hv]) ⟨cs,rfl,hl⟩
  ·cases h
 ·cases h
theorem ZfW {t:TypeId} {i:TI} (ht:TiOk P t i) (h:isSl i.kind=true):∃e,P.underlying t=some (.slice e):=by
 have hk:=ht.kind
 cases hi:i.kind <;> rw[hi]at h hk <;> first|(cases h;done)|exact⟨_,hk⟩
theorem Zm0 {t:TypeId} {i:TI} (ht:TiOk P t i) (h:isStr i.kind=true):P.underlying t=some .string:=by
 have hk:=ht.kind
 cases hi:i.kind <;> rw[hi]at h hk <;> first|(cases h;done)|exact hk
theorem ZkN (hm:Mem P B ρ Z (look ob) w) {t ty:TypeId} {i:TI} (ht:TiOk P t i) {x:AV} {vx:Value} (h:(pLen i.kind x).run ob KK nd=some r) (hx:AR P B ρ Z w x vx):Says P B ρ Z ob w KK r (Builtin.len_ #[t] ty #[vx]):=by
 unfold pLen at h
 split at h
 ·rw[ZaO]at h;obtain⟨A,c,rfl,_⟩:=hx;obtain⟨e,hue⟩:=ZfW ht h.1;exact Z7 hm h.2 (by simp[Builtin.len_,run_underlying hue,goInt]) rfl
 ·
  rw[ZaO]at h
  cases hx
  obtain⟨e,hue⟩:=ZfW ht h.1;exact Z7 hm h.2 (by simp[Builtin.len_,run_underlying hue,goInt]) rfl
 ·
  rw[ZaO]at h
  cases hx
  exact Z7 hm h.2 (by simp[Builtin.len_,run_underlying (Zm0 ht h.1),goInt]) rfl
 ·
  rename_i T
  rw[ZaO,Zbu]at h;obtain⟨hk,o,ho,h⟩:=h;obtain⟨e,hue⟩:=ZfW ht hk
  split at h
  ·
   rename_i e m t' xs
   obtain⟨z,hz,inner,hown,_⟩:=hm.obj T _ ho;obtain⟨z', hz', rfl,_⟩:=hx;rw[hz]at hz'
   cases hz'
   have:∃a c,z.hdr = .slice a xs.length c:=by
    rcases hown.2 with ⟨h1,h2⟩|⟨g,cap,cur,h1,_⟩
    ·exact⟨none,0,by rw[h1,h2]⟩
    ·exact⟨_,cap,h1⟩
   obtain⟨a,c,hv⟩:=this;rw[hv];exact Z7 hm h (by simp[Builtin.len_,run_underlying hue,goInt]) rfl
  ·cases h
 ·
  rename_i T j
  rw[ZaO,Zbu]at h;obtain⟨hk,o,ho,h⟩:=h;obtain⟨e,hue⟩:=ZfW ht hk
  split at h
  ·
   rename_i e m t' xs
   obtain⟨z,hz,inner,hown,_⟩:=hm.obj T _ ho;obtain⟨z', g,n,c,hz', hv,hjn,rfl⟩:=hx;rw[hz]at hz'
   cases hz'
   have:n=xs.length:=by
    rcases hown.2 with ⟨h1,h2⟩|⟨g', cap,cur,h1,_⟩
    ·rw[hv]at h1;cases h1
    ·rw[hv]at h1;cases h1;rfl
   subst this;exact Z7 hm h (by simp[Builtin.len_,run_underlying hue,goInt,sliced]) rfl
  ·cases h
 ·cases h
theorem ZkO (hm:Mem P B ρ Z (look ob) w) {x:AV} {vx:Value} (h:(pNil x).run ob KK nd=some r) (hx:AR P B ρ Z w x vx):∃a,vx = .pointer (some a)/\∃nd', KK ⟨x,[],[]⟩ nd' = some r:=by
 unfold pNil at h
 split at h
 ·obtain⟨z,g,h1,h2,rfl⟩:=hx;exact⟨_,rfl,nd,h⟩
 ·obtain⟨z,g,n,c,_,_,_,_,rfl⟩:=hx;exact⟨_,rfl,nd,h⟩
 ·obtain⟨ad,cs,rfl,_⟩:=hx;exact⟨_,rfl,nd,h⟩
 ·cases h
theorem Zi7 (hm:Mem P B ρ Z (look ob) w) {E:Env} (hE:TtOk P E.tt) {src dst:TypeId} {x:AV} {vx:Value} (h:(pConv E src dst x).run ob KK nd=some r) (hx:AR P B ρ Z w x vx):Says P B ρ Z ob w KK r (convert src dst vx):=by
 unfold pConv at h
 split at h
 ·
  rename_i k n
  cases hx
  rw[ZaO]at h;obtain⟨hsrc,h⟩:=h;have hs:∃d,P.underlying src=some d:=by
   cases hl:lk src E.tt with
   | none=>rw[hl]at hsrc;cases hsrc
   | some i =>
    have hk:=(hE src i hl).kind
    cases hi:i.kind <;> rw[hi]at hk <;> first|exact⟨_,hk⟩|exact hk.elim λ d hd=>⟨_,hd.1⟩
  split at h
  ·
   rename_i i hi
   split at h
   ·
    rename_i k' hk
    have hu:P.underlying dst=some (.int k'):=by have:=(hE dst i hi).kind;rw[hk]at this;exact this
    obtain⟨d,hd⟩:=hs;refine Z7 hm h (v := .int k' (wr k' n)) ?_ rfl
    cases d <;> simp[convert,run_underlying hd,run_underlying hu,Conv.intToInt,wr_eq]
   ·cases h
  ·cases h
 ·cases h
theorem Zmw {t:Ty} {xs:List t.den} {ad:Addr} {sz l n:Nat} (hz:Z ad.block) (hc:∀(j:Nat) (p:t.den),xs[j]? = some p->∃cs,cs.length=sz/\Rep Z w false t p cs (λ _=>False)/\∀(i:Nat) (u:Value),cs[i]? = some u->w.cell? (ad.add (j*sz+i))=some u) :
  ∀(j:Nat) (p:t.den),((xs.take n).drop l)[j]? = some p->∃cs,cs.length=sz/\Rep Z w false t p cs (λ _=>False)/\∀(i:Nat) (u:Value),cs[i]? = some u->w.cell? ((ad.add (l*sz)).add (j*sz+i))=some u:=by
 intro j p hp;rw[List.getElem?_drop,List.getElem?_take]at hp
 split at hp
 ·obtain⟨cs,h1,h2,h3⟩:=hc _ p hp;refine⟨cs,h1,h2,λ i u hu => ?_⟩;rw[ZgY,show l*sz+(j*sz+i)=(l+j)*sz+i by rw[Nat.add_mul];omega];exact h3 i u hu
 ·cases hp
theorem ZhC {t:Ty} {xs:List t.den} {A:Option Addr} {c l n:Nat} (hv:Zdk Z w t.size (λ p c=>Rep Z w false t p c λ _=>False) A c xs) (hln:l<=n) (hn:n<=xs.length) (ys:List t.den) (hys:ys=(xs.take n).drop l) :
  ∃A' c', sliced A l n c t.size = .slice A' ys.length c' /\ Zdk Z w t.size (λ p c=>Rep Z w false t p c λ _=>False) A' c' ys:=by
 obtain⟨h1,h2,h3⟩:=hv;have hyl:ys.length=n - l:=by rw[hys,List.length_drop,List.length_take];omega
 refine⟨_,c - l,by unfold sliced;rw[hyl],by rw[hyl];omega,by rw[hyl];omega,λ h0 => ?_⟩
 obtain⟨ad,rfl,hz,hc⟩:=h3 (by rw[hyl]at h0;omega)
 have hcl:¬ c=l:=by rw[hyl]at h0;omega
 refine⟨ad.add (l*t.size),?_,by rw[ZdI];exact hz,λ j p hp => ?_⟩
 ·simp[hcl]
 ·rw[hys]at hp;exact Zmw hz hc j p hp
theorem Zb7 {x:Option AV} {n:Int} (h:intO x=some (some n)):∃k,x=some (.lf (.int k n)):=by
 unfold intO at h
 split at h
 ·cases h
 ·cases h;exact⟨_,rfl⟩
 ·cases h
theorem ZbS {x:Option AV} (h:intO x=some none):x=none:=by
 unfold intO at h
 split at h
 ·rfl
 ·cases h
 ·cases h
theorem Zim (hm:Mem P B ρ Z (look ob) w) {E:Env} (hE:TtOk P E.tt) {t:TypeId} {lo hi:Option AV} {vlo vhi:Option Value} {x:AV} {vx:Value} (h:(Zl0 E t lo hi x).run ob KK nd=some r) (hx:AR P B ρ Z w x vx)
  (hlo:(lo=none/\vlo=none)\/∃a v,lo=some a/\vlo=some v/\AR P B ρ Z w a v) (hhi:(hi=none/\vhi=none)\/∃a v,hi=some a/\vhi=some v/\AR P B ρ Z w a v):Says P B ρ Z ob w KK r (Instr.sliceAt t vx vlo vhi none):=by
 unfold Zl0 at h
 split at h
 ·
  rename_i t' xs
  split at h
  ·
   rename_i i hi'
   split at h
   ·
    rename_i e hk
    have hu:P.underlying t=some (.slice e):=by have:=(hE t i hi').kind;rw[hk]at this;exact this
    have hel:P.elem t=e:=by simp[Program.elem,hu]
    have hue:P.underlying t=some (.slice (P.elem t)):=by rw[hel];exact hu
    split at h
    ·
     rename_i ie hie
     rw[ZaO]at h;obtain⟨hsz,h⟩:=h;have hsz:=Nat.eq_of_beq_eq_true hsz;have hse:∀w,(sizeOf (P.elem t)).run P w = .ok t'.size w:=λ w=>by rw[hel,Zce (hE e ie hie),hsz]
     obtain⟨A,c,rfl,hv⟩:=hx;have hcap:=hv.1
     split at h
     ·
      rename_i h1 h2
      have e1:=ZbS h1;have e2:=ZbS h2;obtain⟨_,rfl⟩:lo=none/\vlo=none:=hlo.elim id λ⟨a,v,h,_⟩=>by rw[e1]at h;cases h
      obtain⟨_,rfl⟩:hi=none/\vhi=none:=hhi.elim id λ⟨a,v,h,_⟩=>by rw[e2]at h;cases h
      obtain⟨A', c', hs,hv'⟩:=ZhC hv (Nat.zero_le _) (Nat.le_refl _) xs (by simp);refine Z7 hm h (v := .slice A' xs.length c') ?_ ⟨A', c', rfl,hv'⟩;rw[run_sliceAt_slice (P:=P) (w:=w) t _ _ _ _ hue,run_slice_all (P:=P) w t A _ c hue,hse];simp only[Result.andThen];rw[hs]
     ·
      rename_i n h1 h2
      have e1:=ZbS h1;obtain⟨k,e2⟩:=Zb7 h2;obtain⟨_,rfl⟩:lo=none/\vlo=none:=hlo.elim id λ⟨a,v,h,_⟩=>by rw[e1]at h;cases h
      obtain⟨a,v,ha,rfl,hav⟩:=hhi.resolve_left λ h=>by rw[e2]at h;cases h.1
      rw[e2]at ha
      cases ha
      cases hav
      rw[ZZ,ZZ]at h;obtain⟨g0,g1,h⟩:=h;obtain⟨A', c', hs,hv'⟩:=ZhC hv (Nat.zero_le _) (show n.toNat<=xs.length by omega) (xs.take n.toNat) (by simp);refine Z7 hm h (v := .slice A' (xs.take n.toNat).length c') ?_ ⟨A', c', rfl,hv'⟩;rw[run_sliceAt_slice (P:=P) (w:=w) t _ _ _ _ hue,run_slice_h (P:=P) w t A _ c hue k n g0 (by omega),hse];simp only[Result.andThen];rw[hs]
     ·
      rename_i n h1 h2
      have e2:=ZbS h2;obtain⟨k,e1⟩:=Zb7 h1;obtain⟨_,rfl⟩:hi=none/\vhi=none:=hhi.elim id λ⟨a,v,h,_⟩=>by rw[e2]at h;cases h
      obtain⟨a,v,ha,rfl,hav⟩:=hlo.resolve_left λ h=>by rw[e1]at h;cases h.1
      rw[e1]at ha
      cases ha
      cases hav
      rw[ZZ,ZZ]at h;obtain⟨g0,g1,h⟩:=h;obtain⟨A', c', hs,hv'⟩:=ZhC hv (show n.toNat<=xs.length by omega) (Nat.le_refl _) (xs.drop n.toNat) (by simp);refine Z7 hm h (v := .slice A' (xs.drop n.toNat).length c') ?_ ⟨A', c', rfl,hv'⟩;rw[run_sliceAt_slice (P:=P) (w:=w) t _ _ _ _ hue,run_slice_l (P:=P) w t A _ c hue k n g0 g1,hse];simp only[Result.andThen];rw[hs]
     ·
      rename_i n n' h1 h2
      obtain⟨k,e1⟩:=Zb7 h1;obtain⟨k', e2⟩:=Zb7 h2;obtain⟨a,v,ha,rfl,hav⟩:=hlo.resolve_left λ h=>by rw[e1]at h;cases h.1
      rw[e1]at ha
      cases ha
      cases hav
      obtain⟨a,v,ha,rfl,hav⟩:=hhi.resolve_left λ h=>by rw[e2]at h;cases h.1
      rw[e2]at ha
      cases ha
      cases hav
      rw[ZZ,ZZ,ZZ,ZZ]at h;obtain⟨g0,g1,g2,g3,h⟩:=h;obtain⟨A', c', hs,hv'⟩:=ZhC hv (show n.toNat<=n'.toNat by omega) (show n'.toNat<=xs.length by omega) _ rfl;refine Z7 hm h (v := .slice A' ((xs.take n'.toNat).drop n.toNat).length c') ?_ ⟨A', c', rfl,hv'⟩;rw[run_sliceAt_slice (P:=P) (w:=w) t _ _ _ _ hue,run_slice_lh (P:=P) w t A _ c hue k k' n n' g2 g3 (by omega),hse];simp only[Result.andThen];rw[hs]
     ·cases h
    ·cases h
   ·cases h
  ·cases h
 ·
  rename_i s
  split at h
  ·
   rename_i i hi'
   split at h
   ·
    rename_i hk
    have hu:P.underlying t=some .string:=by have:=(hE t i hi').kind;rw[hk]at this;exact this
    cases hx
    split at h
    ·
     rename_i h1 h2
     have e1:=ZbS h1;have e2:=ZbS h2;obtain⟨_,rfl⟩:lo=none/\vlo=none:=hlo.elim id λ⟨a,v,h,_⟩=>by rw[e1]at h;cases h
     obtain⟨_,rfl⟩:hi=none/\vhi=none:=hhi.elim id λ⟨a,v,h,_⟩=>by rw[e2]at h;cases h
     refine Z7 hm h (v := .string (s.extract 0 s.size)) ?_ rfl;rw[run_sliceAt_string (P:=P) (w:=w) t _ _ _ _ hu];simp[Instr.slice,Instr.sliceBounds,run_underlying hu]
    ·
     rename_i n h1 h2
     have e1:=ZbS h1;obtain⟨k,e2⟩:=Zb7 h2;obtain⟨_,rfl⟩:lo=none/\vlo=none:=hlo.elim id λ⟨a,v,h,_⟩=>by rw[e1]at h;cases h
     obtain⟨a,v,ha,rfl,hav⟩:=hhi.resolve_left λ h=>by rw[e2]at h;cases h.1
     rw[e2]at ha
     cases ha
     cases hav
     rw[ZZ,ZZ]at h;obtain⟨g0,g1,h⟩:=h;refine Z7 hm h (v := .string (s.extract 0 n.toNat)) ?_ rfl;rw[run_sliceAt_string (P:=P) (w:=w) t _ _ _ _ hu];simp[Instr.slice,Instr.sliceBounds,Instr.sliceBound,asIntOf,run_underlying hu,g0,g1]
    ·
     rename_i n h1 h2
     have e2:=ZbS h2;obtain⟨k,e1⟩:=Zb7 h1;obtain⟨_,rfl⟩:hi=none/\vhi=none:=hhi.elim id λ⟨a,v,h,_⟩=>by rw[e2]at h;cases h
     obtain⟨a,v,ha,rfl,hav⟩:=hlo.resolve_left λ h=>by rw[e1]at h;cases h.1
     rw[e1]at ha
     cases ha
     cases hav
     rw[ZZ,ZZ]at h;obtain⟨g0,g1,h⟩:=h;refine Z7 hm h (v := .string (s.extract n.toNat s.size)) ?_ rfl;rw[run_sliceAt_string (P:=P) (w:=w) t _ _ _ _ hu];simp[Instr.slice,Instr.sliceBounds,Instr.sliceBound,asIntOf,run_underlying hu,g0,g1]
    ·
     rename_i n n' h1 h2
     obtain⟨k,e1⟩:=Zb7 h1;obtain⟨k', e2⟩:=Zb7 h2;obtain⟨a,v,ha,rfl,hav⟩:=hlo.resolve_left λ h=>by rw[e1]at h;cases h.1
     rw[e1]at ha
     cases ha
     cases hav
     obtain⟨a,v,ha,rfl,hav⟩:=hhi.resolve_left λ h=>by rw[e2]at h;cases h.1
     rw[e2]at ha
     cases ha
     cases hav
     rw[ZZ,ZZ,ZZ]at h;obtain⟨g0,g1,g2,h⟩:=h;refine Z7 hm h (v := .string (s.extract n.toNat n'.toNat)) ?_ rfl;rw[run_sliceAt_string (P:=P) (w:=w) t _ _ _ _ hu];have q1:0<=n' /\ n' <= (s.size:Int):=⟨by omega,g2⟩
     have q2:0<=n/\n<=((n'.toNat:Nat):Int):=⟨g0,by omega⟩
     simp[Instr.slice,Instr.sliceBounds,Instr.sliceBound,asIntOf,run_underlying hu,q1,q2];intro hc;omega
    ·cases h
   ·cases h
  ·cases h
 ·cases h
end
section
variable {P:Program} {B:Nat->Prop} {ρ : Rz} {Z:Nat->Prop} {ob:List (Nat×Ob)} {w w' : World} {β : Type} {KK:Eff->List Nat->Option β} {nd:List Nat} {r : β}
def SaysF (P:Program) (B:Nat->Prop) (ρ : Rz) (Z:Nat->Prop) (ob:List (Nat×Ob)) (w:World) (KK:Eff->List Nat->Option β) (r : β) (nx:Nat) (s:Sem Value):Prop :=
 ∃e nd', KK e nd' = some r/\((∀T,nx<=T->T < nx+e.add.length -> ρ T=none)->Gives P s w (Done P B ρ Z ob w e))
theorem Says.f {s:Sem Value} (h:Says P B ρ Z ob w KK r s) (nx:Nat):SaysF P B ρ Z ob w KK r nx s:=by obtain⟨e,nd', h1,h2⟩:=h;exact⟨e,nd', h1,λ _=>h2⟩
theorem Zd9 {T:Nat} {z:Rzv} (h : ρ T=some z):upd ρ T z = ρ := by
 funext U
 unfold upd
 by_cases hU:U=T
 ·subst hU;rw[if_pos rfl,h]
 ·rw[if_neg hU]
theorem Zmv {n:Nat} {z:Rzv} {x:Ob} (T:Nat) (h : ρ T=none) (h' : T ∉ keys [(n,(x:Ob))]):upd ρ n z T=none:=by unfold upd;rw[if_neg (λ e=>h' (by subst e;exact List.mem_cons_self)),h]
theorem Zel {n:Nat} (hm:Mem P B ρ Z (look ob) w) (h : ρ n=none):¬ (lk n ob).isSome=true:=λ hs=>by
 cases ho:lk n ob with
 | none=>rw[ho]at hs;cases hs
 | some o =>
  obtain⟨z,hz,_⟩:=hm.obj n o ho;rw[h]at hz;cases hz
theorem Zn7 (hm:Mem P B ρ Z (look ob) w) {n:Nat} (h : ρ n=none) (z:Rzv) (hs:ZbL Z w w') (hb:ZbL B w w'):Fut B ρ Z w (upd ρ n z) Z w' :=
 ⟨λ _ h=>h,hs,hb,λ T z0 hz=>⟨z0,by unfold upd;rw[if_neg (λ e=>by subst e;rw[h]at hz;cases hz)];exact hz,rfl⟩⟩
theorem ZdK (w:World) (o:Obj) (k:Nat) (hk:k < w.heap.size):(w.alloc o).heap[k]? = w.heap[k]? := heap_alloc_old w o k hk
theorem ZjM (hm:Mem P B ρ Z (look ob) w) {n:Nat} (hn : ρ n=none) {o:Ob} {z:Rzv} {av:AV} {v:Value} (hos:w'.os=w.os) (htape:w'.tape=w.tape) (hout:w'.output=w.output) (hsz:w.heap.size<=w'.heap.size)
  (hchg:∀k,k < w.heap.size->w'.heap[k]? = w.heap[k]?) (hF:∀k,z.F k->w.heap.size<=k/\k < w'.heap.size) (ho:OR P B (upd ρ n z) Z w' o z) (hav:AR P B (upd ρ n z) Z w' av v):Done P B ρ Z ob w ⟨av,[(n,o)],[]⟩ v w' := by
 obtain⟨h1,h2⟩:=Ze6 hm (n:=n) (o:=o) (z:=z) (c:=[]) (del:=[]) (λ _ h=>by cases h) (λ _ h=>by cases h) (by simp) (λ z0 h=>by rw[hn]at h;cases h) hos htape hout hsz (λ h=>absurd h (Zel hm hn))
  (λ k hk _=>hchg k hk) (λ k hk=>⟨.inr (hF k hk).1,(hF k hk).2⟩) ho
 exact⟨_,Z,h1,h2,hav,λ T h h' => Zmv (x:=o) T h h'⟩
theorem Zne (hm:Mem P B ρ Z (look ob) w) (hchg:∀k,k < w.heap.size->w'.heap[k]? = w.heap[k]?):ZbL B w w' := λ k hk=>hchg k (hm.blt k hk)
theorem Znf (hm:Mem P B ρ Z (look ob) w) (hchg:∀k,k < w.heap.size->w'.heap[k]? = w.heap[k]?):ZbL Z w w' := λ k hk=>hchg k (hm.zlt k hk)
theorem Zg6 (hm:Mem P B ρ Z (look ob) w) {n:Nat} (hn : ρ n=none) {t:TypeId} {ls:List Lf} {vs:List Value} (hl:LRs P B ρ Z w ls vs) (hok:lfsOk ls=true) :
  Done P B ρ Z ob w ⟨.lf (.box n 0),[(n,.box t false ls)],[]⟩ (.pointer (some ⟨w.heap.size,0,none⟩)) (w.alloc (.cells vs.toArray t)):=by
 have hfut:=Zn7 hm hn ⟨.pointer (some ⟨w.heap.size,0,none⟩),λ k=>k=w.heap.size⟩ (Znf hm (ZdK w (.cells vs.toArray t))) (Zne hm (ZdK w (.cells vs.toArray t)));refine ZjM hm hn rfl rfl rfl (by simp) (ZdK w _) (λ k hk=>⟨Nat.le_of_eq hk.symm,by have hk:k=w.heap.size:=hk;rw[hk];simp⟩) (z:=⟨.pointer (some ⟨w.heap.size,0,none⟩),λ k=>k=w.heap.size⟩) ?_ ?_
 ·exact⟨w.heap.size,vs,rfl,heap_alloc_new w _,hl.fut hfut,hok,λ _=>rfl,λ h=>by cases h⟩
 ·exact⟨_,w.heap.size,if_pos rfl,rfl,rfl⟩
theorem Zdc {av:AV} {v:Value} {ls:List Lf} (h:cellsOf av=some ls) (hv:AR P B ρ Z w av v):LRs P B ρ Z w ls v.cells.toList/\lfsOk ls=true:=by
 cases av with
 | lf l =>
  simp only[cellsOf]at h
  cases hok:l.ok with
  | false=>rw[hok]at h;cases h
  | true =>
   rw[hok]at h
   cases h
   have h1:=LR.one hv hok;refine⟨?_,by simp[lfsOk,hok]⟩
   cases v <;> first|exact⟨_,[],rfl,hv,rfl⟩|cases h1
 | agg ls' =>
  simp only[cellsOf]at h
  cases hok:lfsOk ls' with
  | false=>rw[hok]at h;cases h
  | true =>
   rw[hok]at h
   cases h
   obtain⟨vs,rfl,hl⟩:=hv;exact⟨by simpa [Value.cells] using hl,hok⟩
 | tup _=>cases h
theorem Zgu {v:Value} {l:Lf} (h:Zg5 v=some l):LR P B ρ Z w l v/\l.ok=true:=by
 unfold Zg5 at h
 split at h
 ·cases h;exact⟨rfl,rfl⟩
 ·cases h;exact⟨rfl,rfl⟩
 ·cases h;exact⟨rfl,rfl⟩
 ·cases h;exact⟨rfl,rfl⟩
 ·cases h;exact⟨rfl,rfl⟩
 ·cases h;exact⟨rfl,rfl⟩
 ·cases h
theorem ZbW:∀{vs:List Value} {ls:List Lf},Zd5 vs=some ls->LRs P B ρ Z w ls vs/\lfsOk ls=true
 | [],_,h=>by cases h;exact⟨rfl,rfl⟩
 | v :: r,ls,h=>by
  unfold Zd5 at h
  split at h
  ·
   rename_i l ls' h1 h2
   cases h
   obtain⟨a1,a2⟩:=Zgu (P:=P) (B:=B) (ρ := ρ) (Z:=Z) (w:=w) h1;obtain⟨b1,b2⟩:=ZbW h2;exact⟨⟨v,r,rfl,a1,b1⟩,by simp[lfsOk,a2,b2]⟩
  ·cases h
theorem Zgt {v:Value} {av:AV} (h:ZiN v=some av):AR P B ρ Z w av v:=by
 unfold ZiN at h
 split at h
 ·
  rename_i cs
  split at h
  ·
   rename_i ls hc
   cases h
   exact⟨cs.toList,by simp,(ZbW hc).1⟩
  ·cases h
 ·
  split at h
  ·
   rename_i l hc
   cases h
   exact(Zgu hc).1
  ·cases h
theorem Zid (hm:Mem P B ρ Z (look ob) w) {E:Env} (hE:TtOk P E.tt) {nx:Nat} {t:TypeId} (h:(match lk t E.tt with
  | some i=>chk (Nat.beq i.zero.length i.size && !(Nat.beq i.size 0)) (ok (.lf (.box nx 0)) [(nx,.box t false i.zero)] [])
  | none => .fail:Pg Eff).run ob KK nd=some r):SaysF P B ρ Z ob w KK r nx (Instr.alloc t true (.tuple #[])):=by
 split at h
 ·
  rename_i i hi
  rw[ZaO]at h;obtain⟨hc,h⟩:=h;simp only[Bool.and_eq_true,Bool.not_eq_true']at hc;obtain⟨info,h1,h2,h3,h4⟩:=(hE t i hi).info;obtain⟨z,hz,hzc,_⟩:=h4 (Nat.eq_of_beq_eq_true hc.1) (λ h0=>by rw[h0]at hc;cases hc.2);obtain⟨hl,hok⟩:=ZbW (P:=P) (B:=B) (ρ := ρ) (Z:=Z) (w:=w) hzc;refine⟨_,nd,h,λ hnx=>⟨_,_,?_,Zg6 hm (hnx nx (Nat.le_refl _) (by simp)) hl hok⟩⟩;simp[Instr.alloc,zeroValue,typeInfo,h1,hz,newVar,newRow]
 ·cases h
theorem ZkK (hm:Mem P B ρ Z (look ob) w) {E:Env} {nx:Nat} {t:TypeId} {x:AV} {v:Value} (hx:AR P B ρ Z w x v) (h:(match lk t E.tt,cellsOf x with
  | some i,some ls=>chk (Nat.beq ls.length i.size) (ok (.lf (.box nx 0)) [(nx,.box t false ls)] [])
  | _,_ => .fail:Pg Eff).run ob KK nd=some r):SaysF P B ρ Z ob w KK r nx (Instr.box t v):=by
 split at h
 ·
  rename_i i ls hi hc
  rw[ZaO]at h;obtain⟨_,h⟩:=h;obtain⟨hl,hok⟩:=Zdc hc hx;refine⟨_,nd,h,λ hnx=>⟨_,_,?_,Zg6 hm (hnx nx (Nat.le_refl _) (by simp)) hl hok⟩⟩;simp[Instr.box,newVar,newRow]
 ·cases h
theorem ZcV (hm:Mem P B ρ Z (look ob) w) {T:Nat} {o0 o:Ob} {z z' : Rzv} (ho0:lk T ob=some o0) (hz : ρ T=some z) (hhd:z'.hdr=z.hdr) {c:List Nat} (hc:Alive ob c) (hTc:T ∉ c)
  (hF:∀k,z'.F k->z.F k\/Of ρ c k) (hos:w'.os=w.os) (htape:w'.tape=w.tape) (hout:w'.output=w.output) (hsz:w'.heap.size=w.heap.size) (hchg:∀k,¬ z.F k->w'.heap[k]? = w.heap[k]?) (ho:OR P B (upd ρ T z') Z w' o z') :
  Done P B ρ Z ob w ⟨.lf .undef,[(T,o)],c⟩ undef w' := by
 have hal:Alive ob (T :: c):=λ U hU=>by
  rcases List.mem_cons.1 hU with rfl|hU
  ·rw[ho0];rfl
  ·exact hc U hU
 have hTF:∀k,z.F k->Of ρ (T :: c) k:=λ k hk=>⟨T,z,List.mem_cons_self,hz,hk⟩
 have hcF:∀k,Of ρ c k->Of ρ (T :: c) k:=λ k ⟨U,zu,h1,h2⟩=>⟨U,zu,List.mem_cons_of_mem _ h1,h2⟩
 obtain⟨h1,h2⟩:=Ze6 hm (n:=T) (o:=o) (z:=z') (c:=T :: c) (del:=c) hal (λ U hU=>List.mem_cons.1 hU) hTc (λ z0 h=>by rw[hz]at h;cases h;exact hhd.symm) hos htape hout (by omega)
  (λ _ z0 h k hk=>by rw[hz]at h;cases h;exact hTF k hk) (λ k hk hno=>hchg k λ hk' => hno (hTF k hk'))
  (λ k hk=>by have:=(hF k hk).elim (hTF k) (hcF k);exact⟨.inl this,by have:=(hm.zsep k (this.own hal)).2;omega⟩) ho
 refine⟨_,Z,h1,h2,rfl,λ U h h' => ?_⟩;unfold upd;rw[if_neg (λ e=>h' (by subst e;exact List.mem_cons_self)),h]
theorem ZgR {cells ls:List Lf} {vs us:List Value} {off:Nat} (h:LRs P B ρ Z w cells vs) (h' : LRs P B ρ Z w ls us):LRs P B ρ Z w (splice cells off ls) (vs.take off++us++vs.drop (off+us.length)):=by unfold splice;rw[h'.len];exact((h.take off).append h').append (h.drop _)
theorem ZeO {inner us:List Value} {sz j i n:Nat} (hi:inner.length=n*sz) (hu:us.length=sz) (hj:j < n) (hin:i < n) :
  ((inner.take (j*sz)++us++inner.drop (j*sz+us.length)).drop (i*sz)).take sz=if i=j then us else(inner.drop (i*sz)).take sz:=by
 have hjn:(j+1)*sz<=n*sz:=Nat.mul_le_mul_right _ hj;have hinn:(i+1)*sz<=n*sz:=Nat.mul_le_mul_right _ hin;rw[Nat.add_mul,Nat.one_mul]at hjn hinn
 apply List.ext_getElem?
 intro k;rw[List.getElem?_take,List.getElem?_drop]
 by_cases hk:k < sz
 ·
  rw[if_pos hk];rcases Nat.lt_trichotomy i j with hij|hij|hij
  ·have hm:(i+1)*sz<=j*sz:=Nat.mul_le_mul_right _ hij;rw[Nat.add_mul,Nat.one_mul]at hm;rw[if_neg (by omega),List.append_assoc,List.getElem?_append_left (by rw[List.length_take];omega),List.getElem?_take,if_pos (by omega),List.getElem?_take,if_pos hk,List.getElem?_drop]
  ·subst hij;rw[if_pos rfl,List.append_assoc,List.getElem?_append_right (by rw[List.length_take];omega),List.length_take,Nat.min_eq_left (by omega),Nat.add_sub_cancel_left,List.getElem?_append_left (by omega)]
  ·
   have hm:(j+1)*sz<=i*sz:=Nat.mul_le_mul_right _ hij;rw[Nat.add_mul,Nat.one_mul]at hm;rw[if_neg (by omega),List.getElem?_append_right (by rw[List.length_append,List.length_take];omega),List.length_append,List.length_take,Nat.min_eq_left (by omega),List.getElem?_drop,List.getElem?_take,if_pos hk,List.getElem?_drop,hu]
   congr 1
   omega
 ·
  rw[if_neg hk]
  split
  ·rw[List.getElem?_eq_none (by omega)]
  ·rw[List.getElem?_eq_none (by rw[List.length_take];omega)]
theorem ZdZ (hm:Mem P B ρ Z (look ob) w) {E:Env} (hE:TtOk P E.tt) {t:TypeId} {x y:AV} {vx vy:Value} (h:(Zin E t x y).run ob KK nd=some r) (hx:AR P B ρ Z w x vx) (hy:AR P B ρ Z w y vy) :
  ∃e nd', KK e nd' = some r/\∃w', (Instr.storeAt t vx vy).run P w = .ok () w' /\ Done P B ρ Z ob w e undef w' := by
 unfold Zin at h
 split at h
 ·
  rename_i i ls hi hc
  rw[ZaO]at h;obtain⟨hn,h⟩:=h;have hn:=Nat.eq_of_beq_eq_true hn;obtain⟨hl,hok⟩:=Zdc hc hy;have hcz:vy.cells.size=i.size:=by rw[<-hn,<-hl.len];simp
  have hrun:∀ad:Addr,(Instr.storeAt t (.pointer (some ad)) vy).run P w=(storeCells ad vy.cells.toList).run P w:=λ ad=>by simp[Instr.storeAt,Instr.sureAddr,storeVar,Zce (hE t i hi),hcz]
  split at h
  ·
   rename_i T off
   rw[Zbu]at h;obtain⟨o,ho,h⟩:=h
   split at h
   ·
    rename_i bt cells
    rw[ZaO]at h;obtain⟨hle,h⟩:=h;have hle:=Nat.le_of_ble_eq_true hle;obtain⟨z,hz,g,vs,h1,h2,h3,h4,h5,h6⟩:=hm.obj T _ ho;obtain⟨z', g', hz', hg', rfl⟩:=hx;rw[hz]at hz'
    cases hz'
    rw[h1]at hg'
    cases hg'
    have hst:=run_storeCells_at P g off bt vy.cells.toList 0 vs.toArray w h2 (by rw[hl.len,List.size_toArray,h3.len];omega) (hl.one hok)
    simp only[Nat.add_zero]at hst;have h4' : lfsOk (splice cells off ls)=true:=by unfold splice;rw[ZdR,ZdR,ZgE _ _ h4,hok,ZgD _ _ h4];rfl
    refine⟨_,_,h,_,(hrun _).trans hst,ZcV hm ho hz rfl (z' := z) (λ _ h=>by cases h) (by simp) (λ k hk => .inl hk) rfl rfl rfl (by simp) (λ k hk=>setRow_other w g k _ (λ e=>hk (e ▸ h5 rfl))) ?_⟩;rw[Zd9 hz];have hfut:Fut B ρ Z w ρ Z (w.setRow g (vs.toArray.toList.take off++vy.cells.toList++vs.toArray.toList.drop (off+vy.cells.toList.length)).toArray) :=
     ⟨λ _ h=>h,λ k hk=>setRow_other w g k _ (λ e=>(hm.zsep k ⟨T,z,by rw[show look ob T=_ from ho];rfl,hz,e ▸ h5 rfl⟩).1 hk),λ k hk=>setRow_other w g k _ (λ e=>hm.bsep k ⟨T,z,by rw[show look ob T=_ from ho];rfl,hz,e ▸ h5 rfl⟩ hk),λ U zu h=>⟨zu,h,rfl⟩⟩
    exact⟨g,_,h1,setRow_heap w g vs.toArray _ bt (0,0) h2,(ZgR h3 hl).fut hfut,h4', h5,λ h=>by cases h⟩
   ·cases h
  ·
   rename_i T j sz
   rw[Zbu]at h;obtain⟨o,ho,h⟩:=h
   split at h
   ·
    rename_i e m t' xs
    rw[ZaO,ZZ,ZZ]at h;obtain⟨hsz,h0,h1,h⟩:=h;simp only[Bool.and_eq_true]at hsz;obtain⟨hsl,hsz⟩:=hsz;have hsl:=Nat.eq_of_beq_eq_true hsl;have hsz:=Nat.eq_of_beq_eq_true hsz;subst hsz;obtain⟨x,ls', c,nd2,cs,vs', h,hvs,hl', htell,hal,hcl⟩:=Zdz hm _ _ _ _ _ h hl;rw[ZaO]at h;obtain⟨hck,h⟩:=h;simp only[Bool.and_eq_true,Bool.not_eq_true', List.contains_eq_mem,decide_eq_false_iff_not]at hck;obtain⟨hnd,hTc⟩:=hck;have hvs' : vs' = []:=by have h1:=congrArg List.length hvs;rw[hl.len,List.length_append,hcl,<-hsl]at h1;exact List.eq_nil_of_length_eq_zero (by omega)
    subst hvs';rw[List.append_nil]at hvs;obtain⟨z,hz,inner,hown,hb,Fs,hel,hsub,hdis⟩:=hm.obj T _ ho;obtain⟨z', g,n,cap0,hz', hg', hj0,hjn,rfl⟩:=hx;rw[hz]at hz'
    cases hz'
    have hrep:Rep Z w m t' x cs (Of ρ c):=by
     cases m with
     | true=>exact htell hnd
     | false=>exact Rep.noF t' htell
    rcases hown.2 with ⟨hv,_⟩|⟨g', cap,cur,hv,hb0,hg,hnc,hcm,hcs,htake⟩
    ·rw[hg']at hv;cases hv
    ·
     rw[hg']at hv
     cases hv
     have hj:j.toNat < xs.length:=by omega
     have hjm:(j.toNat+1)*t'.size<=xs.length*t'.size:=Nat.mul_le_mul_right _ hj;rw[Nat.add_mul,Nat.one_mul]at hjm;have hxc:xs.length*t'.size<=cur.size:=by rw[hcs];exact Nat.mul_le_mul_right _ hnc
     have hst:=run_storeCells_at P g (j.toNat*t'.size) e vy.cells.toList 0 cur w hg (by rw[hvs,hcl];omega) (hl.one hok)
     simp only[Nat.add_zero]at hst;have hFg:z.F g:=hb g (by rw[hg'];rfl);have hTo:Own ρ (look ob) g:=⟨T,z,by rw[show look ob T=_ from ho];rfl,hz,hFg⟩
     have hsame:∀k,k≠g->(w.setRow g (cur.toList.take (j.toNat*t'.size)++vy.cells.toList++cur.toList.drop (j.toNat*t'.size+vy.cells.toList.length)).toArray).heap[k]? = w.heap[k]? := λ k hk=>setRow_other w g k _ hk
     refine⟨_,_,h,w.setRow g (cur.toList.take (j.toNat*t'.size)++vy.cells.toList++cur.toList.drop (j.toNat*t'.size+vy.cells.toList.length)).toArray,(hrun _).trans (by rw[Nat.add_zero];exact hst),ZcV hm ho hz rfl (z' := ⟨z.hdr,λ k=>z.F k\/Of ρ c k⟩) hal hTc (λ k hk=>hk) rfl rfl rfl (by simp) (λ k hk=>hsame k λ e=>hk (e ▸ hFg)) ?_⟩
     have hil:inner.length=xs.length*t'.size:=hown.1;have hZs:ZbL Z w (w.setRow g (cur.toList.take (j.toNat*t'.size)++vy.cells.toList++cur.toList.drop (j.toNat*t'.size+vy.cells.toList.length)).toArray):=λ k hk=>hsame k λ e=>(hm.zsep g hTo).1 (e ▸ hk)
     have hcg:∀k,Of ρ c k->k≠g:=λ k ⟨U,zu,hu1,hu2,hu3⟩ e=>by subst e;exact hm.sep U T zu z k (λ e=>hTc (e ▸ hu1)) (hal U hu1) (by rw[show look ob T=_ from ho];rfl) hu2 hz hu3 hFg
     have hcz2:∀k,Of ρ c k->¬ z.F k:=λ k ⟨U,zu,hu1,hu2,hu3⟩ hk =>
      hm.sep U T zu z k (λ e=>hTc (e ▸ hu1)) (hal U hu1) (by rw[show look ob T=_ from ho];rfl) hu2 hz hu3 hk
     have hin:inner.take (j.toNat*t'.size)++cs++inner.drop (j.toNat*t'.size+cs.length)=((cur.toList.take (j.toNat*t'.size)++vy.cells.toList++cur.toList.drop (j.toNat*t'.size+vy.cells.toList.length))).take (xs.length*t'.size):=by
      rw[<-htake,hvs,List.take_take,Nat.min_eq_left (by omega),List.drop_take];have e1:((cur.toList.take (j.toNat*t'.size)++cs)).length=j.toNat*t'.size+t'.size:=by rw[List.length_append,List.length_take,hcl,Nat.min_eq_left (by rw[Array.length_toList];omega)]
      rw[List.take_append (l₁ := List.take (j.toNat*t'.size) cur.toList++cs),List.take_of_length_le (l:=List.take (j.toNat*t'.size) cur.toList++cs) (by rw[e1];omega),e1,hcl]
     refine⟨inner.take (j.toNat*t'.size)++cs++inner.drop (j.toNat*t'.size+cs.length),⟨?_,.inr ⟨g,cap0,_,?_,hb0,setRow_heap w g cur _ e (0,0) hg,by rw[List.length_set];exact hnc,hcm,?_,?_⟩⟩,λ k hk => .inl (hb k hk),λ i=>if i=j.toNat then Of ρ c else Fs i,λ i p hp => ?_,λ i k hk => ?_,λ i1 i2 k hne hk1 hk2 => ?_⟩
     ·rw[List.length_append,List.length_append,List.length_take,List.length_drop,hcl,hil,List.length_set,Nat.min_eq_left (by omega)];omega
     ·show z.hdr=_;rw[hg', List.length_set]
     ·rw[List.size_toArray,List.length_append,List.length_append,List.length_take,List.length_drop,hvs,hcl,Array.length_toList,Nat.min_eq_left (by omega)];omega
     ·rw[List.length_set,List.toList_toArray,<-hin]
     ·
      rw[List.getElem?_set]at hp;have hi:i < xs.length:=by
       by_cases hij:j.toNat=i
       ·omega
       ·rw[if_neg hij]at hp;exact(List.getElem?_eq_some_iff.1 hp).1
      rw[ZeO hil hcl hj hi]
      by_cases hij:j.toNat=i
      ·
       subst hij;rw[if_pos rfl,if_pos hj]at hp
       cases hp
       rw[if_pos rfl];show Rep _ _ _ _ _ _ (if j.toNat=j.toNat then Of ρ c else Fs j.toNat);rw[if_pos rfl];exact Rep.imp t' hrep (λ _ h=>h) (λ _ h=>h) hZs λ k hk=>hsame k (hcg k hk)
      ·
       rw[if_neg hij]at hp;rw[if_neg (Ne.symm hij)];show Rep _ _ _ _ _ _ (if i=j.toNat then Of ρ c else Fs i);rw[if_neg (Ne.symm hij)];refine Rep.imp t' (hel i p hp) (λ _ h=>h) (λ _ h=>h) hZs λ k hk=>hsame k λ e => ?_
       subst e;exact(hsub i k hk).2 (by rw[hg'];rfl)
     ·
      have hk:(if i=j.toNat then Of ρ c else Fs i) k:=hk;show(z.F k\/Of ρ c k)/\_
      by_cases hij:i=j.toNat
      ·rw[if_pos hij]at hk;exact⟨.inr hk,by rw[hg'];intro e;exact hcg k hk (Option.some.inj e).symm⟩
      ·rw[if_neg hij]at hk;exact⟨.inl (hsub i k hk).1,(hsub i k hk).2⟩
     ·
      have hk1:(if i1=j.toNat then Of ρ c else Fs i1) k:=hk1;have hk2:(if i2=j.toNat then Of ρ c else Fs i2) k:=hk2
      by_cases hi1:i1=j.toNat
      ·rw[if_pos hi1]at hk1;rw[if_neg (λ e=>hne (hi1.trans e.symm))]at hk2;exact hcz2 k hk1 (hsub i2 k hk2).1
      ·
       rw[if_neg hi1]at hk1
       by_cases hi2:i2=j.toNat
       ·rw[if_pos hi2]at hk2;exact hcz2 k hk2 (hsub i1 k hk1).1
       ·rw[if_neg hi2]at hk2;exact hdis i1 i2 k hne hk1 hk2
   ·cases h
  ·cases h
 ·cases h
end
end Go.Proofs.YtdamfbighdkcbaaGreat.D
