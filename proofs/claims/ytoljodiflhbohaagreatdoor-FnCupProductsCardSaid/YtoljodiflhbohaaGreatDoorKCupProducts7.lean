/- What the proof of the law CupProducts stands on, part 7: words, each Go function's Lean function, and that the Go code comes to its answers; no condition. (Packed by wip/myprint/pack.py out of what the kit's printer wrote, its words among it, partly by our patches of it, and out of texts of this session.) -/
import Derived.Lib.Join
import Derived.Test.YtoljodiflhbohaaGreatDoorKCupProducts3
import Derived.Test.YtoljodiflhbohaaGreatDoorKCupProducts4
import Derived.Test.YtoljodiflhbohaaGreatDoorKCupProducts5
import Derived.Test.YtoljodiflhbohaaGreatDoorKCupProducts6
set_option linter.unusedVariables false
set_option linter.unusedSimpArgs false
namespace Go.Proofs.YtoljodiflhbohaaGreatDoor.D
open Go Go.RowKit
def joined (xs:List ByteArray) (sep:ByteArray):ByteArray:=⟨(Lib.join (xs.map (·.data.toList)) sep.data.toList).toArray⟩
def joinF (xs:List ByteArray) (sep:ByteArray):Option ByteArray:=if xs.length≤140737488355328∧(Lib.join (xs.map (·.data.toList)) sep.data.toList).length≤140737488355328 then some (joined xs sep)else none
theorem Zjd {xs:List ByteArray} {sep r:ByteArray} (h:joinF xs sep=some r):xs.length≤140737488355328∧(Lib.join (xs.map (·.data.toList)) sep.data.toList).length≤140737488355328∧r=joined xs sep:=by
 unfold joinF at h
 split at h
 ·
  rename_i hc
  cases h
  exact⟨hc.1,hc.2,rfl⟩
 ·
  cases h
theorem Ziw {P:Program} {g:FuncId} {e:TypeId} {F:List ByteArray→ByteArray→Option ByteArray} (hc:Callable P g)
  (h0:∀(a:Option Addr) (c:Nat) (sep:ByteArray) (w:World),Calls P g #[.slice a 0 c,.string sep] w fun e w' => e = .returned (.string ⟨#[]⟩)∧w' = w)
  (h:∀(bk o c:Nat) (xs:List ByteArray) (sep:ByteArray) (w:World),(∀(j:Nat) x,xs[j]? = some x→w.cell? ⟨bk,o+j,none⟩=some (.string x))→bk < w.heap.size→xs.length≤140737488355328→xs.length≤c →
   (Lib.join (xs.map (·.data.toList)) sep.data.toList).length≤140737488355328→Calls P g #[.slice (some ⟨bk,o,none⟩) xs.length c,.string sep] w fun e w' => e = .returned (.string (joined xs sep))∧Below w.heap.size w w')
  (hF:∀xs sep r,F xs sep=some r→xs.length≤140737488355328∧(Lib.join (xs.map (·.data.toList)) sep.data.toList).length≤140737488355328∧r=joined xs sep) :
  Valid P g ⟨[.one (.own e true .str),.one (.v .str)],[.one (.v .str)],ByteArray×List ByteArray,fun x=>(F x.1 x.2.1).map fun r=>(r,x.1),fun r=>((r.1,()),(r.2,()))⟩:=by
 refine⟨hc,fun x r hx Z B S w vs ha hS hZ hB => ?_⟩
 obtain⟨v,vs', F0,F1,rfl,h1,⟨v2,vs2,F2,F3,rfl,h2,h3,_⟩,hF0,_⟩:=ha
 cases h3
 have h2:[v2]=[.string x.2.1]:=h2
 cases h2
 obtain⟨r0,hr0,rfl⟩:=Option.map_eq_some_iff.1 hx
 obtain⟨hn,hl,rfl⟩:=hF _ _ _ hr0
 have h1:Zb1 w e 1 (Rep Z w true .str) v x.1 F0:=h1
 have h1' := h1
 obtain⟨inner,hown,hb,Fs,hel,hsub,hdis⟩:=h1'
 have hcall:Calls P g #[v,.string x.2.1] w fun en w' => en = .returned (.string (joined x.1 x.2.1))∧Below w.heap.size w w' := by
  by_cases hp:0 < x.1.length
  ·
   obtain⟨gg,cap,hv,hnc,hbig,hcell⟩:=ZbZ hown hp Nat.one_pos
   have hci:∀(j:Nat) (y:ByteArray),x.1[j]? = some y→w.cell? ⟨gg,j,none⟩=some (.string y):=fun j y hj=>by
    refine(hcell j _ ?_).1
    have q:(inner.drop (j*1)).take 1=[.string y]:=hel j y hj
    have q2:((inner.drop (j*1)).take 1)[0]? = some (.string y):=by rw[q];rfl
    have:=ZbX q2
    simpa using this
   rw[hv]
   refine h gg 0 cap x.1 _ w (fun j y hj=>by rw[Nat.zero_add];exact hci j y hj) ?_ hn hnc hl
   exact ZiR (hci 0 x.1[0] (List.getElem?_eq_getElem hp))
  ·
   have hx0:x.1=[]:=by
    cases hx1:x.1 with
    | nil=>rfl
    | cons a l=>rw[hx1]at hp;simp at hp
   have hj:joined x.1 x.2.1=⟨#[]⟩:=by rw[hx0];rfl
   rw[hj]
   have hlen:x.1.length=0:=by rw[hx0];rfl
   rcases hown.2 with ⟨hv,_⟩|⟨gg,cap,cur,hv,_⟩
   ·
    rw[hv]
    exact(h0 _ _ _ w).mono fun _ _ ⟨a,b⟩=>⟨a,b ▸ Below.refl _ _⟩
   ·
    have hv:v = .slice (some ⟨gg,0,none⟩) x.1.length cap:=hv
    rw[hv,hlen]
    exact(h0 _ _ _ w).mono fun _ _ ⟨a,b⟩=>⟨a,b ▸ Below.refl _ _⟩
 refine hcall.mono ?_
 rintro en w' ⟨rfl,hbl⟩
 have hlt:∀k,F0 k→k < w.heap.size:=fun k hk=>(hS k (hF0 k hk)).2.2
 have h4:Zb1 w' e 1 (Rep Z w' true .str) v x.1 F0:=Zb1.imp h1 (fun _ h=>h) (fun k hk=>hbl.block k (hlt k hk)) fun p cs G _ hp=>hp
 refine⟨_,rfl,Z,F0,fun _=>False,⟨⟨_,_,F0,fun _=>False,rfl,h4,⟨_,[],fun _=>False,fun _=>False,rfl,trivial,trivial,fun _ h=>h,fun _ h=>h,fun _ h=>h.elim⟩,fun _ h=>h,fun _ h=>h.elim,fun _ _ h=>h⟩,
  ⟨[.string (joined x.1 x.2.1)],rfl,_,[],fun _=>False,fun _=>False,rfl,rfl,rfl,fun _ h=>h,fun _ h=>h,fun _ h=>h.elim⟩,fun _ _ h=>h,fun k hk => ?_,fun _ h=>h,fun k hk=>⟨.inl hk,Nat.lt_of_lt_of_le (hZ k hk) hbl.size⟩,hbl.os,hbl.tape,hbl.output,hbl.size,fun k hk _=>hbl.block k hk⟩⟩
 have hk:F0 k:=hk.elim id fun h=>h.elim
 exact⟨.inl (hF0 k hk),Nat.lt_of_lt_of_le (hlt k hk) hbl.size,(hS k (hF0 k hk)).1⟩
end Go.Proofs.YtoljodiflhbohaaGreatDoor.D
namespace Go.Proofs.YtoljodiflhbohaaGreatDoor.P
open Go Go.RowKit Go.Proofs.YtoljodiflhbohaaGreatDoor.D
noncomputable def ZbI.f (a0:List ByteArray) (a1:ByteArray):Option (ByteArray×List ByteArray):=(joinF a0 a1).map fun r=>(r,a0)
noncomputable def ZbI.con:Con:=⟨[.one (.own 9 true .str),.one (.v .str)],[.one (.v .str)],ByteArray×List ByteArray,fun x=>ZbI.f x.1 x.2.1,fun r=>((r.1,()),(r.2,()))⟩
theorem ZbI.valid:Valid Tryz.prog 126 ZbI.con:=Ziw (F:=joinF) ⟨_,Tryz.func126,by kernel_rfl,by kernel_rfl⟩ (fun a c sep w=>Tryz.strings_Join_none a c sep w) (fun bk o c xs sep w h1 h2 h3 h4 h5=>Tryz.ZbI bk o c xs sep w h1 h2 h3 h4 h5) fun xs sep r h=>Zjd h
end Go.Proofs.YtoljodiflhbohaaGreatDoor.P
set_option maxRecDepth 100000
namespace Go.Proofs.YtoljodiflhbohaaGreatDoor.P
open Go Go.RowKit Go.Proofs.YtoljodiflhbohaaGreatDoor.D
noncomputable def ZZ.E:Env:={ tt:=TT,con:=[(108,Zba.con),(126,ZbI.con)],frz:=[],rows:=[],live:=[(3,[3,7,8,9])],n:=21,pin:=0,nils:=[] }
noncomputable def ZZ.fn:D.Fn:={ body:=Tryz.f109.body.getD .skip,res:=Tryz.f109.results.toList,ins:=[.one (.v (.sl 2 (.int .i64)))],outs:=[.one (.v .str)] }
def ZZ.enc (y:lsd (flats ZZ.fn.outs)×lsd (ios ZZ.fn.ins)):ByteArray:=y.1.1
noncomputable def ZZ.f (l0:List Int):Option ByteArray:=denF ZZ.E ZZ.fn ZZ.enc (l0,())
noncomputable def ZZ.l0 (x7:List Int) (x8:Int) (x9:Int) (r0:List ByteArray):Option ByteArray:=denAt ZZ.E ZZ.fn ZZ.enc [1,1,0,1,0] { fr:=[(3,.lf (.own 0)),(7,.lf (.sl (.int .i64) x7)),(8,.lf (.int .i64 x8)),(9,.lf (.int .i64 x9))],ob:=[(0,.row 9 true .str r0)],nx:=1 }
theorem ZZ.f_eq (l0:List Int):ZZ.f l0=ZZ.l0 l0 (l0.length:Int) 0 ([]:List ByteArray):=by kernel_rfl
theorem ZZ.l0_eq (x7:List Int) (x8:Int) (x9:Int) (r0:List ByteArray):ZZ.l0 x7 x8 x9 r0=if x9 < x8 then(if 0≤x9 then(if x9 < (x7.length:Int)then((Zba.f (rd x7 x9)).bind fun t15=>if r0.length+([t15]:List ByteArray).length≤8796093022208 then(ZZ.l0 x7 x8 (wrapI (x9+1)) (r0++([t15]:List ByteArray)))else none)else none)else none)else((ZbI.f r0 (⟨#[44]⟩:ByteArray)).bind fun t20=>some t20.1):=(Zy _ _ _ _).trans (by kernel_rfl)
noncomputable def ZZ.con:Con:=⟨ZZ.fn.ins,ZZ.fn.outs,ByteArray,fun x=>ZZ.f x.1,fun r=>((r,()),(()))⟩
theorem ZZ.valid:Valid Tryz.prog 109 ZZ.con:=fnV ZZ.fn ZZ.E ZZ.enc ⟨ttOk,(Zf Zba.valid (Zf ZbI.valid Zaq))⟩ Tryz.func109
end Go.Proofs.YtoljodiflhbohaaGreatDoor.P
namespace Go.Proofs.YtoljodiflhbohaaGreatDoor.P
open Go Go.RowKit Go.Proofs.YtoljodiflhbohaaGreatDoor.D
noncomputable def ZaJ.E:Env:={ tt:=TT,con:=[(108,Zba.con),(109,ZZ.con)],frz:=[],rows:=[],live:=[],n:=11,pin:=0,nils:=[] }
noncomputable def ZaJ.fn:D.Fn:={ body:=Tryz.f76.body.getD .skip,res:=Tryz.f76.results.toList,ins:=[.agg [.v (.int .i64),.v (.sl 2 (.int .i64))]],outs:=[.one (.v .str)] }
def ZaJ.enc (y:lsd (flats ZaJ.fn.outs)×lsd (ios ZaJ.fn.ins)):ByteArray:=y.1.1
noncomputable def ZaJ.f (a0_0:Int) (l0_1:List Int):Option ByteArray:=denF ZaJ.E ZaJ.fn ZaJ.enc (a0_0,l0_1,())
theorem ZaJ.f_eq (a0_0:Int) (l0_1:List Int):ZaJ.f a0_0 l0_1=(Zba.f a0_0).bind fun t5=>if szs t5 (⟨#[58]⟩:ByteArray)≤9223372036854775807 then((ZZ.f l0_1).bind fun t9=>if szs (t5++(⟨#[58]⟩:ByteArray)) t9≤9223372036854775807 then(some ((t5++(⟨#[58]⟩:ByteArray))++t9))else none)else none:=by kernel_rfl
noncomputable def ZaJ.con:Con:=⟨ZaJ.fn.ins,ZaJ.fn.outs,ByteArray,fun x=>ZaJ.f x.1 x.2.1,fun r=>((r,()),(()))⟩
theorem ZaJ.valid:Valid Tryz.prog 76 ZaJ.con:=fnV ZaJ.fn ZaJ.E ZaJ.enc ⟨ttOk,(Zf Zba.valid (Zf ZZ.valid Zaq))⟩ Tryz.func76
end Go.Proofs.YtoljodiflhbohaaGreatDoor.P
namespace Go.Proofs.YtoljodiflhbohaaGreatDoor.P
open Go Go.RowKit Go.Proofs.YtoljodiflhbohaaGreatDoor.D
noncomputable def ZaF.E:Env:={ tt:=TT,con:=[(45,Zo.con),(76,ZaJ.con)],frz:=[],rows:=[12],live:=[],n:=19,pin:=0,nils:=[] }
noncomputable def ZaF.fn:D.Fn:={ body:=Tryz.f24.body.getD .skip,res:=Tryz.f24.results.toList,ins:=[.agg [.v (.sl 27 (.sl 2 (.int .i64)))],.agg [.v (.int .i64),.v (.sl 2 (.int .i64))],.agg [.v (.int .i64),.v (.sl 2 (.int .i64))]],outs:=[.one (.v .str),.one (.v (.int .i64))] }
def ZaF.enc (y:lsd (flats ZaF.fn.outs)×lsd (ios ZaF.fn.ins)):ByteArray×Int:=(y.1.1,y.1.2.1)
noncomputable def ZaF.f (l0_0:List (List Int)) (a1_0:Int) (l1_1:List Int) (a2_0:Int) (l2_1:List Int):Option (ByteArray×Int):=denF ZaF.E ZaF.fn ZaF.enc (l0_0,a1_0,l1_1,a2_0,l2_1,())
theorem ZaF.f_eq (l0_0:List (List Int)) (a1_0:Int) (l1_1:List Int) (a2_0:Int) (l2_1:List Int):ZaF.f l0_0 a1_0 l1_1 a2_0 l2_1=(Zo.f l0_0 a1_0 l1_1 ([(a2_0,l2_1)]:List (Int×(List Int)))).bind fun t13=>if t13=0 then((ZaJ.f a2_0 l2_1).bind fun t18=>some (t18,0))else(some ((⟨#[]⟩:ByteArray),t13)):=by kernel_rfl
noncomputable def ZaF.con:Con:=⟨ZaF.fn.ins,ZaF.fn.outs,ByteArray×Int,fun x=>ZaF.f x.1 x.2.1 x.2.2.1 x.2.2.2.1 x.2.2.2.2.1,fun r=>((r.1,r.2,()),(()))⟩
theorem ZaF.valid:Valid Tryz.prog 24 ZaF.con:=fnV ZaF.fn ZaF.E ZaF.enc ⟨ttOk,(Zf Zo.valid (Zf ZaJ.valid Zaq))⟩ Tryz.func24
end Go.Proofs.YtoljodiflhbohaaGreatDoor.P
namespace Go.Proofs.YtoljodiflhbohaaGreatDoor.P
open Go Go.RowKit Go.Proofs.YtoljodiflhbohaaGreatDoor.D
noncomputable def Zau.E (c:Con):Env:={ tt:=TT,con:=[(110,c)],frz:=[],rows:=[],live:=[],n:=26,pin:=0,nils:=[] }
noncomputable def Zau.fn:D.Fn:={ body:=Tryz.f110.body.getD .skip,res:=Tryz.f110.results.toList,ins:=[.one (.v (.int .i64))],outs:=[.one (.v .str)] }
def Zau.enc (y:lsd (flats Zau.fn.outs)×lsd (ios Zau.fn.ins)):ByteArray:=y.1.1
noncomputable def Zau.cof (F:lsd (flats Zau.fn.ins)→Option ByteArray):Con:=⟨Zau.fn.ins,Zau.fn.outs,ByteArray,F,fun r=>((r,()),(()))⟩
noncomputable def Zau.fx:Nat→lsd (flats Zau.fn.ins)→Option ByteArray
 | 0=>fun _=>none
 | n+1=>fun x=>denF (Zau.E (Zau.cof (Zau.fx n))) Zau.fn Zau.enc x
noncomputable def Zau.cn (n:Nat):Con:=Zau.cof (Zau.fx n)
noncomputable def Zau.f (n:Nat) (a0:Int):Option ByteArray:=Zau.fx n (a0,())
theorem Zau.f_eq (n:Nat) (a0:Int):Zau.f (n+1) a0=if a0 < 0 then((Zau.f n (wrapI (0 - a0))).bind fun t7=>if szs (⟨#[45]⟩:ByteArray) t7≤9223372036854775807 then(some ((⟨#[45]⟩:ByteArray)++t7))else none)else(if a0 < 10 then(if 0 < (([wr .u8 (wrapI (48+a0))]:List Int).length:Int)then(some (ZdO ([wr .u8 (wrapI (48+a0))]:List Int)))else none)else((Zau.f n (wrapI ((a0:Int).tdiv 10))).bind fun t18=>if 0 < (([wr .u8 (wrapI (48+((a0:Int).tmod 10)))]:List Int).length:Int)then(if szs t18 (ZdO ([wr .u8 (wrapI (48+((a0:Int).tmod 10)))]:List Int))≤9223372036854775807 then(some (t18++(ZdO ([wr .u8 (wrapI (48+((a0:Int).tmod 10)))]:List Int))))else none)else none)):=by kernel_rfl
theorem Zau.vn:∀n,Valid Tryz.prog 110 (Zau.cn n)
 | 0=>ZdD ⟨_,Tryz.func110,by kernel_rfl,by kernel_rfl⟩
 | n+1=>ZdY (f:=Zau.fn) (E:=Zau.E (Zau.cn n)) (enc:=Zau.enc) ⟨ttOk,(Zf (Zau.vn n) Zaq)⟩ (Checked.mixed Tryz.checked) ⟨Tryz.func110,by kernel_rfl,by kernel_rfl,by kernel_rfl,by kernel_rfl,of_decide_eq_true (by kernel_rfl),by kernel_rfl,by kernel_rfl⟩ (fun _=>rfl)
noncomputable def Zau.con:Con:=Zau.cn fuel
theorem Zau.valid:Valid Tryz.prog 110 Zau.con:=Zau.vn fuel
end Go.Proofs.YtoljodiflhbohaaGreatDoor.P
namespace Go.Proofs.YtoljodiflhbohaaGreatDoor.P
open Go Go.RowKit Go.Proofs.YtoljodiflhbohaaGreatDoor.D
noncomputable def ZaI.E:Env:={ tt:=TT,con:=[(110,Zau.con)],frz:=[],rows:=[],live:=[(3,[1,3,4])],n:=29,pin:=0,nils:=[] }
noncomputable def ZaI.fn:D.Fn:={ body:=Tryz.f77.body.getD .skip,res:=Tryz.f77.results.toList,ins:=[.agg [.v (.int .i64),.v (.sl 2 (.int .i64))]],outs:=[.one (.v .str)] }
def ZaI.enc (y:lsd (flats ZaI.fn.outs)×lsd (ios ZaI.fn.ins)):ByteArray:=y.1.1
noncomputable def ZaI.f (a0_0:Int) (l0_1:List Int):Option ByteArray:=denF ZaI.E ZaI.fn ZaI.enc (a0_0,l0_1,())
noncomputable def ZaI.l0 (x3:ByteArray) (x4:Int) (b0_0:Int) (b0_1:List Int):Option ByteArray:=denAt ZaI.E ZaI.fn ZaI.enc [1,1,0,1,0] { fr:=[(1,.lf (.box 0 0)),(3,.lf (.str x3)),(4,.lf (.int .i64 x4))],ob:=[(0,.box 31 false [.int .i64 b0_0,.sl (.int .i64) b0_1])],nx:=1 }
theorem ZaI.f_eq (a0_0:Int) (l0_1:List Int):ZaI.f a0_0 l0_1=(Zau.f fuel a0_0).bind fun t7=>if szs t7 (⟨#[58]⟩:ByteArray)≤9223372036854775807 then(ZaI.l0 (t7++(⟨#[58]⟩:ByteArray)) 0 a0_0 l0_1)else none:=by kernel_rfl
theorem ZaI.l0_eq (x3:ByteArray) (x4:Int) (b0_0:Int) (b0_1:List Int):ZaI.l0 x3 x4 b0_0 b0_1=if x4 < (b0_1.length:Int)then(if x4 > 0 then(if szs x3 (⟨#[44]⟩:ByteArray)≤9223372036854775807 then(if 0≤x4 then(if x4 < (b0_1.length:Int)then((Zau.f fuel (rd b0_1 x4)).bind fun t26=>if szs (x3++(⟨#[44]⟩:ByteArray)) t26≤9223372036854775807 then(ZaI.l0 ((x3++(⟨#[44]⟩:ByteArray))++t26) (wrapI (x4+1)) b0_0 b0_1)else none)else none)else none)else none)else(if 0≤x4 then(if x4 < (b0_1.length:Int)then((Zau.f fuel (rd b0_1 x4)).bind fun t26=>if szs x3 t26≤9223372036854775807 then(ZaI.l0 (x3++t26) (wrapI (x4+1)) b0_0 b0_1)else none)else none)else none))else(some x3):=(Zy _ _ _ _).trans (by kernel_rfl)
noncomputable def ZaI.con:Con:=⟨ZaI.fn.ins,ZaI.fn.outs,ByteArray,fun x=>ZaI.f x.1 x.2.1,fun r=>((r,()),(()))⟩
theorem ZaI.valid:Valid Tryz.prog 77 ZaI.con:=fnV ZaI.fn ZaI.E ZaI.enc ⟨ttOk,(Zf Zau.valid Zaq)⟩ Tryz.func77
end Go.Proofs.YtoljodiflhbohaaGreatDoor.P
namespace Go.Proofs.YtoljodiflhbohaaGreatDoor.P
open Go Go.RowKit Go.Proofs.YtoljodiflhbohaaGreatDoor.D
noncomputable def ZaG.E:Env:={ tt:=TT,con:=[(42,ZJ.con),(77,ZaI.con)],frz:=[],rows:=[12],live:=[],n:=19,pin:=0,nils:=[] }
noncomputable def ZaG.fn:D.Fn:={ body:=Tryz.f25.body.getD .skip,res:=Tryz.f25.results.toList,ins:=[.agg [.v (.sl 27 (.sl 2 (.int .i64)))],.agg [.v (.int .i64),.v (.sl 2 (.int .i64))],.agg [.v (.int .i64),.v (.sl 2 (.int .i64))]],outs:=[.one (.v .str),.one (.v (.int .i64))] }
def ZaG.enc (y:lsd (flats ZaG.fn.outs)×lsd (ios ZaG.fn.ins)):ByteArray×Int:=(y.1.1,y.1.2.1)
noncomputable def ZaG.f (l0_0:List (List Int)) (a1_0:Int) (l1_1:List Int) (a2_0:Int) (l2_1:List Int):Option (ByteArray×Int):=denF ZaG.E ZaG.fn ZaG.enc (l0_0,a1_0,l1_1,a2_0,l2_1,())
theorem ZaG.f_eq (l0_0:List (List Int)) (a1_0:Int) (l1_1:List Int) (a2_0:Int) (l2_1:List Int):ZaG.f l0_0 a1_0 l1_1 a2_0 l2_1=(ZJ.f l0_0 a1_0 l1_1 ([(a2_0,l2_1)]:List (Int×(List Int)))).bind fun t13=>if t13=0 then((ZaI.f a2_0 l2_1).bind fun t18=>some (t18,0))else(some ((⟨#[]⟩:ByteArray),t13)):=by kernel_rfl
noncomputable def ZaG.con:Con:=⟨ZaG.fn.ins,ZaG.fn.outs,ByteArray×Int,fun x=>ZaG.f x.1 x.2.1 x.2.2.1 x.2.2.2.1 x.2.2.2.2.1,fun r=>((r.1,r.2,()),(()))⟩
theorem ZaG.valid:Valid Tryz.prog 25 ZaG.con:=fnV ZaG.fn ZaG.E ZaG.enc ⟨ttOk,(Zf ZJ.valid (Zf ZaI.valid Zaq))⟩ Tryz.func25
end Go.Proofs.YtoljodiflhbohaaGreatDoor.P
namespace Go.Proofs.YtoljodiflhbohaaGreatDoor.P
open Go Go.RowKit Go.Proofs.YtoljodiflhbohaaGreatDoor.D
noncomputable def Zd.E:Env:={ tt:=TT,con:=[(4,ZbB.con),(5,Zh.con),(6,Zt.con),(7,Za.con),(8,Zax.con),(9,ZaC.con),(10,ZaE.con),(11,ZG.con),(12,ZaQ.con),(13,Z8.con),(14,Zbe.con),(15,Z7.con),(16,Zav.con),(17,ZO.con),(18,ZaW.con),(19,Zbi.con),(20,Zaf.con),(21,Zay.con),(22,ZP.con),(23,Zae.con),(24,ZaF.con),(25,ZaG.con)],frz:=[],rows:=[],live:=[(11,[0,3,4,5,6,7,8,12,13]),(26,[0]),(37,[0]),(49,[0])],n:=464,pin:=0,nils:=[] }
noncomputable def Zd.fn:D.Fn:={ body:=Tryz.f3.body.getD .skip,res:=Tryz.f3.results.toList,ins:=[.one (.v (.sl 5 (.int .u8)))],outs:=[.one (.v .bool)] }
def Zd.enc (y:lsd (flats Zd.fn.outs)×lsd (ios Zd.fn.ins)):Bool:=y.1.1
noncomputable def Zd.f (l0:List Int):Option Bool:=denF Zd.E Zd.fn Zd.enc (l0,())
noncomputable def Zd.l0 (x0:List Int) (x13:Int) (b0_0:List (List Int)) (b1_0:Int) (b1_1:List Int) (b2_0:Int) (b2_1:List Int) (b3_0:Int) (b4_0:Int) (b5_0:Int) (r6:List Int) (r7:List Int) (r8:List Int) (r9:List Int):Option Bool:=denAt Zd.E Zd.fn Zd.enc [1,1,1,1,1,1,0,1,0,1,0,1,0] { fr:=[(0,.lf (.sl (.int .u8) x0)),(3,.lf (.box 0 0)),(4,.lf (.box 1 0)),(5,.lf (.box 2 0)),(6,.lf (.box 3 0)),(7,.lf (.box 4 0)),(8,.lf (.box 5 0)),(12,.lf (.own 6)),(13,.lf (.int .i64 x13))],ob:=[(0,.box 26 false [.sl (.sl 2 (.int .i64)) b0_0]),(1,.box 29 false [.int .i64 b1_0,.sl (.int .i64) b1_1]),(2,.box 29 false [.int .i64 b2_0,.sl (.int .i64) b2_1]),(3,.box 31 false [.int .i64 b3_0,.own 7]),(4,.box 31 false [.int .i64 b4_0,.own 8]),(5,.box 31 false [.int .i64 b5_0,.own 9]),(6,.row 2 true (.int .i64) r6),(7,.row 2 true (.int .i64) r7),(8,.row 2 true (.int .i64) r8),(9,.row 2 true (.int .i64) r9)],nx:=10 }
noncomputable def Zd.j1 (x0:List Int):Option Bool:=denAt Zd.E Zd.fn Zd.enc [1,1,1,1,1,1,1] { fr:=[(0,.lf (.sl (.int .u8) x0))],ob:=[],nx:=0 }
noncomputable def Zd.j2 (x0:List Int):Option Bool:=denAt Zd.E Zd.fn Zd.enc [1,1,1,1,1,1,1,1,1,1,1,1] { fr:=[(0,.lf (.sl (.int .u8) x0))],ob:=[],nx:=0 }
noncomputable def Zd.j3 (x0:List Int):Option Bool:=denAt Zd.E Zd.fn Zd.enc [1,1,1,1,1,1,1,1,1,1,1,1,1,1,1,1,1] { fr:=[(0,.lf (.sl (.int .u8) x0))],ob:=[],nx:=0 }
theorem Zd.f_eq (l0:List Int):Zd.f l0=(ZbB.f l0).bind fun t77=>if t77=true then(some true)else((Zh.f l0).bind fun t80=>(Zt.f t80.1 t80.2.1 t80.2.2.1 t80.2.2.2.1 t80.2.2.2.2.1 t80.2.2.2.2.2.1 t80.2.2.2.2.2.2.1 t80.2.2.2.2.2.2.2.1 t80.2.2.2.2.2.2.2.2).bind fun t92=>(Za.f t80.1 t80.2.1 t80.2.2.1 t80.2.2.2.1 t80.2.2.2.2.1 t80.2.2.2.2.2.1 t80.2.2.2.2.2.2.1 t80.2.2.2.2.2.2.2.1 t80.2.2.2.2.2.2.2.2).bind fun t101=>if t92.2.2=t101.2.2 then((Zax.f t92.1 t92.2.1 t101.1 t101.2.1).bind fun t110=>if t110=true then(if t92.2.2=0 then(if t92.1 < 3 then(Zd.l0 l0 0 t80.1 t80.2.1 t80.2.2.1 t80.2.2.2.1 t80.2.2.2.2.1 t80.2.2.2.2.2.1 t80.2.2.2.2.2.2.2.1 t92.1 ([]:List Int) t80.2.2.2.2.2.2.1 t80.2.2.2.2.2.2.2.2 t92.2.1)else(Zd.j1 l0))else(Zd.j1 l0))else(some false))else(some false)):=by kernel_rfl
theorem Zd.l0_eq (x0:List Int) (x13:Int) (b0_0:List (List Int)) (b1_0:Int) (b1_1:List Int) (b2_0:Int) (b2_1:List Int) (b3_0:Int) (b4_0:Int) (b5_0:Int) (r6:List Int) (r7:List Int) (r8:List Int) (r9:List Int):Zd.l0 x0 x13 b0_0 b1_0 b1_1 b2_0 b2_1 b3_0 b4_0 b5_0 r6 r7 r8 r9=if x13 < (b1_1.length:Int)then(if 0≤x13 then(if x13 < (b1_1.length:Int)then(if 0≤x13 then(if x13 < (b2_1.length:Int)then(if b1_0=0 then none else(if r6.length+([(wrapI ((rd b1_1 x13)*(rd b2_1 x13)):Int).tmod b1_0]:List Int).length≤17592186044416 then(Zd.l0 x0 (wrapI (x13+1)) b0_0 b1_0 b1_1 b2_0 b2_1 b3_0 b4_0 b5_0 (r6++([(wrapI ((rd b1_1 x13)*(rd b2_1 x13)):Int).tmod b1_0]:List Int)) r7 r8 r9)else none))else none)else none)else none)else none)else((ZaC.f b0_0 b1_0 r6 b5_0 r9).bind fun t153=>(ZaC.f b0_0 b1_0 b1_1 b3_0 r7).bind fun t160=>(ZaC.f b0_0 b2_0 b2_1 b4_0 r8).bind fun t167=>(Zt.f b0_0 b1_0 b1_1 b2_0 b2_1 t160.1 t160.2.1 b4_0 r8).bind fun t176=>(Zt.f b0_0 b1_0 b1_1 b2_0 b2_1 b3_0 r7 t167.1 t167.2.1).bind fun t185=>if((b3_0:Int).tmod 2)=1 then((ZaE.f b0_0 b1_0 r6 t176.1 t176.2.1 t185.1 t185.2.1 (-1)).bind fun t198=>if t153.2.2=0 then(if t160.2.2=0 then(if t167.2.2=0 then(if t176.2.2=0 then(if t185.2.2=0 then(if t198.2.2=0 then((Zax.f t153.1 t153.2.1 t198.1 t198.2.1).bind fun t226=>if t226=true then(Zd.j1 x0)else(some false))else(some false))else(some false))else(some false))else(some false))else(some false))else(some false))else((ZaE.f b0_0 b1_0 r6 t176.1 t176.2.1 t185.1 t185.2.1 1).bind fun t198=>if t153.2.2=0 then(if t160.2.2=0 then(if t167.2.2=0 then(if t176.2.2=0 then(if t185.2.2=0 then(if t198.2.2=0 then((Zax.f t153.1 t153.2.1 t198.1 t198.2.1).bind fun t226=>if t226=true then(Zd.j1 x0)else(some false))else(some false))else(some false))else(some false))else(some false))else(some false))else(some false))):=(Zy _ _ _ _).trans (by kernel_rfl)
theorem Zd.j1_eq (x0:List Int):Zd.j1 x0=(ZG.f x0).bind fun t231=>(ZaQ.f t231.1 t231.2.1 t231.2.2.1 t231.2.2.2.1 t231.2.2.2.2.1 t231.2.2.2.2.2.1 t231.2.2.2.2.2.2).bind fun t243=>(Z8.f t231.1 t231.2.1 t231.2.2.1 t231.2.2.2.1 t231.2.2.2.2.1 t231.2.2.2.2.2.1 t231.2.2.2.2.2.2).bind fun t253=>if t243.2.2.2.2=t253.2.2.2.2 then((Zbe.f t243.1 t243.2.1 t253.1 t253.2.1).bind fun t263=>if t263=true then((Zax.f t243.2.2.1 t243.2.2.2.1 t253.2.2.1 t253.2.2.2.1).bind fun t269=>if t269=true then(if t243.2.2.2.2=0 then(if t231.2.2.2.2.2.1 < 3 then((ZaC.f t231.2.1 t231.2.2.1 t231.2.2.2.1 t231.2.2.2.2.2.1 t231.2.2.2.2.2.2).bind fun t283=>(ZaQ.f t231.1 t231.2.1 t231.2.2.1 t231.2.2.2.1 t231.2.2.2.2.1 t283.1 t283.2.1).bind fun t292=>(ZaC.f t231.1 t243.1 t243.2.1 t243.2.2.1 t243.2.2.2.1).bind fun t300=>if t283.2.2=0 then(if t292.2.2.2.2=0 then(if t300.2.2=0 then((Zax.f t292.2.2.1 t292.2.2.2.1 t300.1 t300.2.1).bind fun t316=>if t316=true then(Zd.j2 x0)else(some false))else(some false))else(some false))else(some false))else(Zd.j2 x0))else(Zd.j2 x0))else(some false))else(some false))else(some false):=by kernel_rfl
theorem Zd.j2_eq (x0:List Int):Zd.j2 x0=(Z7.f x0).bind fun t321=>(Zav.f t321.1 t321.2.1 t321.2.2.1 t321.2.2.2.1 t321.2.2.2.2.1 t321.2.2.2.2.2).bind fun t331=>(ZO.f t321.1 t321.2.1 t321.2.2.1 t321.2.2.2.1 t321.2.2.2.2.1 t321.2.2.2.2.2).bind fun t339=>if t331.2.2=t339.2.2 then((Zax.f t331.1 t331.2.1 t339.1 t339.2.1).bind fun t348=>if t348=true then(if t331.2.2=0 then((ZaW.f t321.1 t321.2.1 t321.2.2.1 t321.2.2.2.1 t321.2.2.2.2.1).bind fun t357=>(ZaW.f t321.1 t321.2.1 t321.2.2.1 t331.1 t331.2.1).bind fun t364=>(Zbi.f t321.1 t321.2.2.2.2.2 (-1)).bind fun t370=>(Zav.f t321.1 t321.2.1 t321.2.2.1 t331.1 t331.2.1 t370.1).bind fun t378=>if t357.2=0 then(if t364.2=0 then(if t370.2=0 then(if t378.2.2=0 then(if(decide (t357.1=true))=(decide (t364.1=true))then((Zax.f t378.1 t378.2.1 t321.2.2.2.1 t321.2.2.2.2.1).bind fun t403=>if t403=true then(Zd.j3 x0)else(some false))else(some false))else(some false))else(some false))else(some false))else(some false))else(Zd.j3 x0))else(some false))else(some false):=by kernel_rfl
theorem Zd.j3_eq (x0:List Int):Zd.j3 x0=(Zaf.f x0).bind fun t408=>(Zay.f t408.1 t408.2.1 t408.2.2.1 t408.2.2.2).bind fun t416=>(ZP.f t408.1 t408.2.1 t408.2.2.1 t408.2.2.2).bind fun t423=>(Zae.f x0).bind fun t428=>(ZaF.f t428.1 t428.2.1 t428.2.2.1 t428.2.2.2.1 t428.2.2.2.2).bind fun t436=>(ZaG.f t428.1 t428.2.1 t428.2.2.1 t428.2.2.2.1 t428.2.2.2.2).bind fun t443=>if t416.2.2=t423.2.2 then((Zax.f t416.1 t416.2.1 t423.1 t423.2.1).bind fun t452=>if t452=true then(if t436.2=t443.2 then(some (decide (t436.1=t443.1)))else(some false))else(some false))else(some false):=by kernel_rfl
noncomputable def Zd.con:Con:=⟨Zd.fn.ins,Zd.fn.outs,Bool,fun x=>Zd.f x.1,fun r=>((r,()),(()))⟩
theorem Zd.valid:Valid Tryz.prog 3 Zd.con:=fnV Zd.fn Zd.E Zd.enc ⟨ttOk,(Zf ZbB.valid (Zf Zh.valid (Zf Zt.valid (Zf Za.valid (Zf Zax.valid (Zf ZaC.valid (Zf ZaE.valid (Zf ZG.valid (Zf ZaQ.valid (Zf Z8.valid (Zf Zbe.valid (Zf Z7.valid (Zf Zav.valid (Zf ZO.valid (Zf ZaW.valid (Zf Zbi.valid (Zf Zaf.valid (Zf Zay.valid (Zf ZP.valid (Zf Zae.valid (Zf ZaF.valid (Zf ZaG.valid Zaq))))))))))))))))))))))⟩ Tryz.func3
end Go.Proofs.YtoljodiflhbohaaGreatDoor.P
namespace Go.Proofs.YtoljodiflhbohaaGreatDoor.V
open Go Go.RowKit Go.Proofs.YtoljodiflhbohaaGreatDoor.D
theorem w64 {x:Int} (h0 : -9223372036854775808≤x) (h1:x≤9223372036854775807):wrapI x=x:=by unfold wrapI;rw[hid_eq];unfold wrap64;omega
theorem wn {j:Nat} (h:j < 4611686018427387904):wrapI ((j:Int)+1)=((j+1:Nat):Int):=by rw[w64 (by omega) (by omega)];omega
theorem Zj {α : Type} {p:Prop} {inst:Decidable p} {a b r : α} (h:p) (k:a=r):(if p then a else b)=r:=by rw[if_pos h];exact k
theorem Zi {α : Type} {p:Prop} {inst:Decidable p} {a b r : α} (h:¬ p) (k:b=r):(if p then a else b)=r:=by rw[if_neg h];exact k
theorem Ze {α β : Type} {c:Option α} {f : α → Option β} {a : α} {r:Option β} (h:c=some a) (k:f a=r):c.bind f=r:=by rw[h];exact k
theorem Zcj:maxLen≤9223372036854775807:=by unfold maxLen;omega
theorem Zbu {n:Nat} (h:n≤9223372036854775807):n≤maxLen:=by unfold maxLen;omega
noncomputable def ite_ {α : Type} (p:Prop) (a b : α) : α := @ite α p (Classical.propDecidable p) a b
theorem ZbK {α : Type} {p:Prop} (h:p) (a b : α):ite_ p a b=a:=by unfold ite_;simp[h]
theorem ZbN {α : Type} {p:Prop} (h:¬ p) (a b : α):ite_ p a b=b:=by unfold ite_;simp[h]
noncomputable def B (p:Prop):Bool := @decide p (Classical.propDecidable p)
theorem B_pos {p:Prop} (h:p):B p=true:=by unfold B;simp[h]
theorem B_neg {p:Prop} (h:¬ p):B p=false:=by unfold B;simp[h]
theorem B_not {p:Prop} (h:¬ p):¬ (B p=true):=by rw[B_neg h];decide
theorem Zb5 {p q:Prop} (h:p↔q):B p=B q:=by rw[show p=q from propext h]
theorem ZfO (p:Prop) {inst:Decidable p}:decide p=B p:=by by_cases h:p <;> simp[h,B]
theorem Zlm:B True=true:=B_pos trivial
theorem scan {R:Type} (n:Nat) (L:Int→R) (P:Int→Prop) (bad:R)
  (hs:∀i:Int,0≤i→i < n→(∀j:Int,0≤j→j < i→P j)→(P i→L i=L (i+1))∧(¬ P i→L i=bad)) :
  ((∀j:Int,0≤j→j < n→P j)∧L 0=L n)∨(∃m:Int,0≤m∧m < n∧(∀j:Int,0≤j→j < m→P j)∧¬ P m∧L 0=L m∧L 0=bad):=by
 suffices H:∀d m:Nat,m+d=n→(∀j:Int,0≤j→j < m→P j) →
   ((∀j:Int,0≤j→j < n→P j)∧L m=L n)∨(∃i:Int,0≤i∧i < n∧(∀j:Int,0≤j→j < i→P j)∧¬ P i∧L m=L i∧L m=bad)by
  simpa using H n 0 (by omega) (fun j h0 h1=>by omega)
 intro d
 induction d with
 | zero =>
  intro m hm hp
  have:(m:Int)=n:=by omega
  rw[this]at hp ⊢
  exact .inl ⟨hp,rfl⟩
 | succ d ih =>
  intro m hm hp
  obtain⟨h1,h2⟩:=hs m (by omega) (by omega) hp
  by_cases h:P m
  ·
   have hp' : ∀j:Int,0≤j→j < ((m+1:Nat):Int)→P j:=fun j h0 hj=>by
    by_cases e:j=m
    ·
     rw[e];exact h
    ·
     exact hp j h0 (by omega)
   have:=ih (m+1) (by omega) hp'
   rwa[Int.natCast_add,Int.natCast_one,←h1 h]at this
  ·
   exact .inr ⟨m,by omega,by omega,hp,h,rfl,h2 h⟩
theorem scanB (n:Nat) (L:Int→Option Bool) (P:Int→Prop) (Q:Prop)
  (hs:∀i:Int,0≤i→i < n→(∀j:Int,0≤j→j < i→P j)→(P i→L i=L (i+1))∧(¬ P i→L i=some false))
  (he:(∀j:Int,0≤j→j < n→P j)→L n=some (B Q)):L 0=some (B ((∀j:Int,0≤j→j < n→P j)∧Q)):=by
 rcases scan n L P (some false) hs with ⟨h1,h2⟩|⟨j,h0,h1,_,h2,_,h3⟩
 ·
  rw[Zb5 (show((∀j:Int,0≤j→j < n→P j)∧Q)↔Q from⟨fun h=>h.2,fun h=>⟨h1,h⟩⟩),h2]
  exact he h1
 ·
  rw[B_neg fun h=>h2 (h.1 j h0 h1)]
  exact h3
theorem scanT (n:Nat) (L:Int→Option Bool) (P:Int→Prop)
  (hs:∀i:Int,0≤i→i < n→(∀j:Int,0≤j→j < i→P j)→(P i→L i=L (i+1))∧(¬ P i→L i=some false))
  (he:(∀j:Int,0≤j→j < n→P j)→L n=some true):L 0=some (B (∀j:Int,0≤j→j < n→P j)):=by
 have:=scanB n L P True hs (fun h=>by rw[Zlm];exact he h)
 rwa[Zb5 (show((∀j:Int,0≤j→j < n→P j)∧True)↔_ from⟨fun h=>h.1,fun h=>⟨h,trivial⟩⟩)]at this
theorem scanI {R:Type} (n:Nat) (L:Int→R) (P:Int→Prop) (bad go:R)
  (hs:∀i:Int,0≤i→i < n→(∀j:Int,0≤j→j < i→P j)→(P i→L i=L (i+1))∧(¬ P i→L i=bad)) (he:(∀j:Int,0≤j→j < n→P j)→L n=go) :
  ((∀j:Int,0≤j→j < n→P j)→L 0=go)∧(¬ (∀j:Int,0≤j→j < n→P j)→L 0=bad):=by
 rcases scan n L P bad hs with ⟨h1,h2⟩|⟨j,h0,h1,_,h2,_,h3⟩
 ·
  exact⟨fun _=>h2.trans (he h1),fun h=>absurd h1 h⟩
 ·
  exact⟨fun h=>absurd (h j h0 h1) h2,fun _=>h3⟩
theorem up {R:Type} (n:Nat) (L:Nat→R) (h:∀i,i < n→L i=L (i+1)):L 0=L n:=by
 suffices H:∀m,m≤n→L 0=L m from H n (Nat.le_refl _)
 intro m
 induction m with
 | zero=>exact fun _=>rfl
 | succ m ih=>exact fun hm=>(ih (by omega)).trans (h m (by omega))
theorem ZgX (xs:List Int) (j:Nat):rd xs (j:Int)=xs.getD j 0:=by simp[rd]
theorem ZbW {xs:List Int} {j:Nat} (h:j < xs.length):rd xs (j:Int)=xs[j]:=by simp[rd,List.getD_eq_getElem?_getD,List.getElem?_eq_getElem h]
theorem rd_at {xs:List Int} {i:Int} (h0:0≤i) (h1:i < xs.length):xs[i.toNat]? = some (rd xs i):=by
 have h:i.toNat < xs.length:=by omega
 simp[rd,List.getD_eq_getElem?_getD,List.getElem?_eq_getElem h]
theorem ZcK {xs:List Int} {i:Int} (h0:0≤i) (h1:i < xs.length):rd xs i∈xs:=List.mem_of_getElem? (rd_at h0 h1)
theorem Zi3 {xs ys:List Int} (hl:xs.length=ys.length) (h:∀i:Int,0≤i→i < xs.length→rd xs i=rd ys i):xs=ys:=by
 apply List.ext_getElem hl
 intro i h1 h2
 have:=h i (by omega) (by omega)
 simpa [rd,List.getD_eq_getElem?_getD,List.getElem?_eq_getElem h1,List.getElem?_eq_getElem h2] using this
theorem Zgh {g:List (List Int)} {j:Nat} (h:j < g.length):row g (j:Int)=g[j]:=by simp[row,List.getD_eq_getElem?_getD,List.getElem?_eq_getElem h]
theorem ZhB {g:List (List Int)} {a:Int} (h0:0≤a) (h1:a < g.length):row g a∈g:=by
 have h:a.toNat < g.length:=by omega
 unfold row
 rw[List.getD_eq_getElem?_getD,List.getElem?_eq_getElem h]
 exact List.getElem_mem h
theorem Zk2 {g:List (List Int)} {r:List Int} (h:r∈g):∃i:Int,0≤i∧i < g.length∧row g i=r:=by
 obtain⟨i,hi,rfl⟩:=List.mem_iff_getElem.1 h
 exact⟨i,by omega,by omega,Zgh hi⟩
def AllIn (n:Int) (xs:List Int):Prop:=∀i:Int,0≤i→i < xs.length→0≤rd xs i∧rd xs i < n
theorem ZbR {n x:Int} (h0:0≤x) (h1:x < n):AllIn n [x]:=by
 intro i i0 i1
 have:i=0:=by simp at i1;omega
 subst this;simp[rd, *]
theorem ZbH {n x y:Int} (h0:0≤x) (h1:x < n) (h2:0≤y) (h3:y < n):AllIn n [x,y]:=by
 intro i i0 i1
 have:i=0∨i=1:=by simp at i1;omega
 rcases this with rfl|rfl <;> simp[rd, *]
theorem ZcC {n x y z:Int} (h0:0≤x) (h1:x < n) (h2:0≤y) (h3:y < n) (h4:0≤z) (h5:z < n):AllIn n [x,y,z]:=by
 intro i i0 i1
 have:i=0∨i=1∨i=2:=by simp at i1;omega
 rcases this with rfl|rfl|rfl <;> simp[rd, *]
theorem AllIn.mem {n:Int} {xs:List Int} (h:AllIn n xs) {x:Int} (hx:x∈xs):0≤x∧x < n:=by
 obtain⟨i,hi,rfl⟩:=List.mem_iff_getElem.1 hx
 have:=h i (by omega) (by omega)
 rwa[ZbW hi]at this
theorem ZbU {n:Int} {xs:List Int} (h:∀x∈xs,0≤x∧x < n):AllIn n xs:=fun i i0 i1=>h _ (ZcK i0 i1)
theorem AllIn.drop {n:Int} {xs:List Int} (h:AllIn n xs) (j:Nat):AllIn n (xs.drop j):=ZbU fun x hx=>h.mem (List.mem_of_mem_drop hx)
theorem AllIn.take {n:Int} {xs:List Int} (h:AllIn n xs) (j:Nat):AllIn n (xs.take j):=ZbU fun x hx=>h.mem (List.mem_of_mem_take hx)
theorem AllIn.append {n:Int} {xs ys:List Int} (h:AllIn n xs) (k:AllIn n ys):AllIn n (xs++ys):=ZbU fun x hx=>by
 rcases List.mem_append.1 hx with h' | h'
 ·
  exact h.mem h'
 ·
  exact k.mem h'
theorem Zcl {a m:Int} (h:0≤a):Int.tmod a m=a%m:=Int.tmod_eq_emod_of_nonneg h
theorem Zgo {a m:Int} (h:0≤a):Int.tdiv a m=a / m:=Int.tdiv_eq_ediv_of_nonneg h
end Go.Proofs.YtoljodiflhbohaaGreatDoor.V
set_option maxHeartbeats 2000000
set_option maxRecDepth 20000
namespace Go.Proofs.YtoljodiflhbohaaGreatDoor.V
open Go.RowKit Go.Proofs.YtoljodiflhbohaaGreatDoor.D Go.Proofs.YtoljodiflhbohaaGreatDoor.P
theorem areIn (n:Int) (xs:List Int) (hl:xs.length≤maxLen):ZaH.f n xs=some (B (AllIn n xs)):=by
 have hm:=Zcj
 rw[ZaH.f_eq]
 refine scanT xs.length (fun i=>ZaH.l0 n xs (xs.length:Int) i) (fun i=>0≤rd xs i∧rd xs i < n) (fun i h0 h1 _ => ?_) (fun _ => ?_)
 ·
  refine⟨fun h => ?_,fun h => ?_⟩ <;> (rw[ZaH.l0_eq])
  ·
   ((with_reducible repeat (first|refine Zj (by first|assumption|omega|rfl|exact B_pos (by omega)) ?_|refine Zi (by first|assumption|omega|decide|exact B_not (by omega)) ?_|refine Ze (by first|assumption) ?_|dsimp only));first|done|(with_reducible rfl)|simp (disch:=omega) only[w64]|(show False;done))
  ·
   by_cases h2:rd xs i < 0 <;> ((with_reducible repeat (first|refine Zj (by first|assumption|omega|rfl|exact B_pos (by omega)) ?_|refine Zi (by first|assumption|omega|decide|exact B_not (by omega)) ?_|refine Ze (by first|assumption) ?_|dsimp only));first|done|(with_reducible rfl)|simp (disch:=omega) only[w64]|(show False;done))
 ·
  (rw[ZaH.l0_eq])
  ((with_reducible repeat (first|refine Zj (by first|assumption|omega|rfl|exact B_pos (by omega)) ?_|refine Zi (by first|assumption|omega|decide|exact B_not (by omega)) ?_|refine Ze (by first|assumption) ?_|dsimp only));first|done|(with_reducible rfl)|simp (disch:=omega) only[w64]|(show False;done))
theorem index_ (xs:List Int) (x:Int) (hl:xs.length≤maxLen) :
  ((∀i:Int,0≤i→i < xs.length→rd xs i≠x)∧Zv.f xs x=some (-1)) ∨
  ∃i:Int,0≤i∧i < xs.length∧(∀j:Int,0≤j→j < i→rd xs j≠x)∧rd xs i=x∧Zv.f xs x=some i:=by
 have hm:=Zcj
 rw[Zv.f_eq]
 suffices H:∀d m:Nat,m+d=xs.length→(∀j:Int,0≤j→j < m→rd xs j≠x) →
   ((∀i:Int,0≤i→i < xs.length→rd xs i≠x)∧Zv.l0 xs x (xs.length:Int) m=some (-1)) ∨
   ∃i:Int,0≤i∧i < xs.length∧(∀j:Int,0≤j→j < i→rd xs j≠x)∧rd xs i=x∧Zv.l0 xs x (xs.length:Int) m=some i from
  H xs.length 0 (by omega) (fun j h0 h1=>by omega)
 intro d
 induction d with
 | zero =>
  intro m hd hp
  obtain rfl:m=xs.length:=by omega
  refine .inl ⟨hp,?_⟩
  (rw[Zv.l0_eq])
  ((with_reducible repeat (first|refine Zj (by first|assumption|omega|rfl|exact B_pos (by omega)) ?_|refine Zi (by first|assumption|omega|decide|exact B_not (by omega)) ?_|refine Ze (by first|assumption) ?_|dsimp only));first|done|(with_reducible rfl)|simp (disch:=omega) only[w64]|(show False;done))
 | succ d ih =>
  intro m hd hp
  by_cases h2:x=rd xs m
  ·
   refine .inr ⟨m,by omega,by omega,hp,h2.symm,?_⟩
   (rw[Zv.l0_eq])
   ((with_reducible repeat (first|refine Zj (by first|assumption|omega|rfl|exact B_pos (by omega)) ?_|refine Zi (by first|assumption|omega|decide|exact B_not (by omega)) ?_|refine Ze (by first|assumption) ?_|dsimp only));first|done|(with_reducible rfl)|simp (disch:=omega) only[w64]|(show False;done))
  ·
   have st:Zv.l0 xs x (xs.length:Int) m=Zv.l0 xs x (xs.length:Int) ((m+1:Nat):Int):=by
    rw[Int.natCast_add,Int.natCast_one]
    (rw[Zv.l0_eq])
    ((with_reducible repeat (first|refine Zj (by first|assumption|omega|rfl|exact B_pos (by omega)) ?_|refine Zi (by first|assumption|omega|decide|exact B_not (by omega)) ?_|refine Ze (by first|assumption) ?_|dsimp only));first|done|(with_reducible rfl)|simp (disch:=omega) only[w64]|(show False;done))
   rw[st]
   refine ih (m+1) (by omega) fun j k0 k1 => ?_
   by_cases e:j=m
   ·
    rw[e];exact fun h=>h2 h.symm
   ·
    exact hp j k0 (by omega)
theorem ZiY (xs:List Int) (x:Int) (hl:xs.length≤maxLen):Z5.f xs x=some (B (∃i:Int,0≤i∧i < xs.length∧rd xs i=x)):=by
 rw[Z5.f_eq]
 rcases index_ xs x hl with ⟨h,e⟩|⟨i,h0,h1,_,h2,e⟩
 ·
  rw[e,B_neg fun⟨i,h0,h1,h2⟩=>h i h0 h1 h2];rfl
 ·
  rw[e,B_pos ⟨i,h0,h1,h2⟩];simp[h0]
structure Grp (g:List (List Int)):Prop where
 n1:1≤g.length
 n8:g.length≤8
 row:∀a:Int,0≤a→a < g.length→(row g a).length=g.length
 ent:∀a b:Int,0≤a→a < g.length→0≤b→b < g.length→0≤T g a b∧T g a b < g.length
 one:∀a:Int,0≤a→a < g.length→T g 0 a=a
 one' : ∀a:Int,0≤a→a < g.length→T g a 0=a
 assoc:∀a b c:Int,0≤a→a < g.length→0≤b→b < g.length→0≤c→c < g.length→T g (T g a b) c=T g a (T g b c)
 inv:∀a:Int,0≤a→a < g.length→∃b:Int,0≤b∧b < g.length∧T g a b=0
theorem Grp.inv2 {g:List (List Int)} (h:Grp g) {a:Int} (h0:0≤a) (h1:a < g.length):∃b:Int,0≤b∧b < g.length∧T g a b=0∧T g b a=0:=by
 obtain⟨b,b0,b1,hb⟩:=h.inv a h0 h1
 obtain⟨c,c0,c1,hc⟩:=h.inv b b0 b1
 refine⟨b,b0,b1,hb,?_⟩
 have hac:c=a:=by
  have e1:=h.assoc a b c h0 h1 b0 b1 c0 c1
  rw[hb,hc,h.one c c0 c1,h.one' a h0 h1]at e1
  exact e1
 rw[←hac];exact hc
theorem Zh5 {g:List (List Int)} (hr:∀r∈g,r.length≤maxLen) {a:Int} (h0:0≤a) (h1:a < g.length):(row g a).length≤maxLen:=hr _ (ZhB h0 h1)
def Tab (g:List (List Int)):Prop:=∀a:Int,0≤a→a < g.length→(row g a).length=g.length∧AllIn g.length (row g a)
def Law (g:List (List Int)) (a:Int):Prop:=T g 0 a=a∧T g a 0=a∧(∃b:Int,0≤b∧b < g.length∧T g a b=0)∧∀b:Int,0≤b→b < g.length→∀c:Int,0≤c→c < g.length→T g (T g a b) c=T g a (T g b c)
theorem Zhf (g:List (List Int)):Grp g↔(1≤g.length∧g.length≤8)∧Tab g∧∀a:Int,0≤a→a < g.length→Law g a:=by
 constructor
 ·
  intro h
  refine⟨⟨h.n1,h.n8⟩,fun a h0 h1=>⟨h.row a h0 h1,fun i i0 i1 => ?_⟩,fun a h0 h1=>⟨h.one a h0 h1,h.one' a h0 h1,h.inv a h0 h1,fun b b0 b1 c c0 c1=>h.assoc a b c h0 h1 b0 b1 c0 c1⟩⟩
  have:=h.row a h0 h1
  exact h.ent a i h0 h1 i0 (by omega)
 ·
  rintro⟨⟨h1,h8⟩,ht,hl⟩
  refine⟨h1,h8,fun a a0 a1=>(ht a a0 a1).1,fun a b a0 a1 b0 b1 => ?_,fun a a0 a1=>(hl a a0 a1).1,fun a a0 a1=>(hl a a0 a1).2.1,fun a b c a0 a1 b0 b1 c0 c1=>(hl a a0 a1).2.2.2 b b0 b1 c c0 c1,fun a a0 a1=>(hl a a0 a1).2.2.1⟩
  have:=(ht a a0 a1).1
  exact(ht a a0 a1).2 b b0 (by omega)
theorem Ze1 (g:List (List Int)) (hl:g.length≤maxLen) (hr:∀r∈g,r.length≤maxLen):Zq.f g=some (B (Grp g)):=by
 have hm:=Zcj
 rw[Zb5 (Zhf g)]
 (rw[Zq.f_eq])
 by_cases c1:(g.length:Int) < 1∨(g.length:Int) > 8
 ·
  rw[B_neg fun h=>by omega]
  by_cases c2:(g.length:Int) < 1 <;> ((with_reducible repeat (first|refine Zj (by first|assumption|omega|rfl|exact B_pos (by omega)) ?_|refine Zi (by first|assumption|omega|decide|exact B_not (by omega)) ?_|refine Ze (by first|assumption|exact ZX.f_eq _) ?_|dsimp only));first|done|(with_reducible rfl)|simp (disch:=omega) only[w64]|(show False;done))
 rw[Zb5 (show((1≤g.length∧g.length≤8)∧Tab g∧∀a:Int,0≤a→a < g.length→Law g a)↔(Tab g∧∀a:Int,0≤a→a < g.length→Law g a)from⟨fun h=>h.2,fun h=>⟨by omega,h⟩⟩)]
 (with_reducible repeat (first|refine Zj (by first|assumption|omega|rfl|exact B_pos (by omega)) ?_|refine Zi (by first|assumption|omega|decide|exact B_not (by omega)) ?_|refine Ze (by first|assumption|exact ZX.f_eq _) ?_|dsimp only))
 refine scanB g.length (fun i=>Zq.l0 (g.length:Int) g (g.length:Int) i g) (fun a=>(row g a).length=g.length∧AllIn g.length (row g a)) _ (fun i h0 h1 _ => ?_) (fun ht => ?_)
 ·
  have ha:=areIn g.length (row g i) (Zh5 hr h0 h1)
  refine⟨fun h => ?_,fun h => ?_⟩ <;> (rw[Zq.l0_eq])
  ·
   have h1:=h.1
   rw[B_pos h.2]at ha
   ((with_reducible repeat (first|refine Zj (by first|assumption|omega|rfl|exact B_pos (by omega)) ?_|refine Zi (by first|assumption|omega|decide|exact B_not (by omega)) ?_|refine Ze (by first|assumption) ?_|dsimp only));first|done|(with_reducible rfl)|simp (disch:=omega) only[w64]|(show False;done))
  ·
   by_cases h2:((row g i).length:Int)=g.length
   ·
    rw[B_neg fun h3=>h ⟨by omega,h3⟩]at ha
    ((with_reducible repeat (first|refine Zj (by first|assumption|omega|rfl|exact B_pos (by omega)) ?_|refine Zi (by first|assumption|omega|decide|exact B_not (by omega)) ?_|refine Ze (by first|assumption) ?_|dsimp only));first|done|(with_reducible rfl)|simp (disch:=omega) only[w64]|(show False;done))
   ·
    ((with_reducible repeat (first|refine Zj (by first|assumption|omega|rfl|exact B_pos (by omega)) ?_|refine Zi (by first|assumption|omega|decide|exact B_not (by omega)) ?_|refine Ze (by first|assumption) ?_|dsimp only));first|done|(with_reducible rfl)|simp (disch:=omega) only[w64]|(show False;done))
 (rw[Zq.l0_eq])
 (with_reducible repeat (first|refine Zj (by first|assumption|omega|rfl|exact B_pos (by omega)) ?_|refine Zi (by first|assumption|omega|decide|exact B_not (by omega)) ?_|refine Ze (by first|assumption) ?_|dsimp only))
 refine scanT g.length (fun i=>Zq.l1 (g.length:Int) (g.length:Int) i g) (Law g) (fun a a0 a1 _ => ?_) (fun _ => ?_)
 rotate_left
 ·
  (rw[Zq.l1_eq])
  ((with_reducible repeat (first|refine Zj (by first|assumption|omega|rfl|exact B_pos (by omega)) ?_|refine Zi (by first|assumption|omega|decide|exact B_not (by omega)) ?_|refine Ze (by first|assumption) ?_|dsimp only));first|done|(with_reducible rfl)|simp (disch:=omega) only[w64]|(show False;done))
 have hlen:∀x:Int,0≤x→x < g.length→((row g x).length:Int)=g.length:=fun x x0 x1=>by rw[(ht x x0 x1).1]
 have hent:∀x y:Int,0≤x→x < g.length→0≤y→y < g.length→0≤T g x y∧T g x y < g.length:=fun x y x0 x1 y0 y1=>(ht x x0 x1).2 y y0 (by rw[hlen x x0 x1];exact y1)
 have l0:=hlen 0 (by omega) (by omega)
 have la:=hlen a a0 a1
 have hc:=ZiY (row g a) 0 (Zh5 hr a0 a1)
 rw[Zb5 (show(∃i:Int,0≤i∧i < (row g a).length∧rd (row g a) i=0)↔∃b:Int,0≤b∧b < g.length∧T g a b=0 by rw[la];exact Iff.rfl)]at hc
 by_cases h2:T g 0 a=a
 rotate_left
 ·
  refine⟨fun h=>absurd h.1 h2,fun _ => ?_⟩
  (rw[Zq.l1_eq])
  ((with_reducible repeat (first|refine Zj (by first|assumption|omega|rfl|exact B_pos (by omega)) ?_|refine Zi (by first|assumption|omega|decide|exact B_not (by omega)) ?_|refine Ze (by first|assumption) ?_|dsimp only));first|done|(with_reducible rfl)|simp (disch:=omega) only[w64]|(show False;done))
 by_cases h3:T g a 0=a
 rotate_left
 ·
  refine⟨fun h=>absurd h.2.1 h3,fun _ => ?_⟩
  (rw[Zq.l1_eq])
  ((with_reducible repeat (first|refine Zj (by first|assumption|omega|rfl|exact B_pos (by omega)) ?_|refine Zi (by first|assumption|omega|decide|exact B_not (by omega)) ?_|refine Ze (by first|assumption) ?_|dsimp only));first|done|(with_reducible rfl)|simp (disch:=omega) only[w64]|(show False;done))
 by_cases h4:∃b:Int,0≤b∧b < g.length∧T g a b=0
 rotate_left
 ·
  refine⟨fun h=>absurd h.2.2.1 h4,fun _ => ?_⟩
  rw[B_neg h4]at hc
  (rw[Zq.l1_eq])
  ((with_reducible repeat (first|refine Zj (by first|assumption|omega|rfl|exact B_pos (by omega)) ?_|refine Zi (by first|assumption|omega|decide|exact B_not (by omega)) ?_|refine Ze (by first|assumption) ?_|dsimp only));first|done|(with_reducible rfl)|simp (disch:=omega) only[w64]|(show False;done))
 rw[B_pos h4]at hc
 have inner:=scanI g.length (fun b=>Zq.l2 (g.length:Int) a (g.length:Int) a (g.length:Int) b g) (fun b=>∀c:Int,0≤c→c < g.length→T g (T g a b) c=T g a (T g b c)) (some false) (Zq.l1 (g.length:Int) (g.length:Int) (a+1) g)
  (fun b b0 b1 _=>by
   obtain⟨e0,e1⟩:=hent a b a0 a1 b0 b1
   have le:=hlen _ e0 e1
   have lb:=hlen b b0 b1
   have:=scanI g.length (fun c=>Zq.l3 (g.length:Int) a b (g.length:Int) a (g.length:Int) b (g.length:Int) c g) (fun c=>T g (T g a b) c=T g a (T g b c)) (some false) (Zq.l2 (g.length:Int) a (g.length:Int) a (g.length:Int) (b+1) g)
    (fun c c0 c1 _=>by
     obtain⟨f0,f1⟩:=hent b c b0 b1 c0 c1
     refine⟨fun h => ?_,fun h => ?_⟩ <;> (rw[Zq.l3_eq]) <;> ((with_reducible repeat (first|refine Zj (by first|assumption|omega|rfl|exact B_pos (by omega)) ?_|refine Zi (by first|assumption|omega|decide|exact B_not (by omega)) ?_|refine Ze (by first|assumption) ?_|dsimp only));first|done|(with_reducible rfl)|simp (disch:=omega) only[w64]|(show False;done))) (fun _=>by(rw[Zq.l3_eq]);((with_reducible repeat (first|refine Zj (by first|assumption|omega|rfl|exact B_pos (by omega)) ?_|refine Zi (by first|assumption|omega|decide|exact B_not (by omega)) ?_|refine Ze (by first|assumption) ?_|dsimp only));first|done|(with_reducible rfl)|simp (disch:=omega) only[w64]|(show False;done)))
   refine⟨fun h => ?_,fun h => ?_⟩ <;> (rw[Zq.l2_eq])
   ·
    (with_reducible repeat (first|refine Zj (by first|assumption|omega|rfl|exact B_pos (by omega)) ?_|refine Zi (by first|assumption|omega|decide|exact B_not (by omega)) ?_|refine Ze (by first|assumption) ?_|dsimp only))
    exact this.1 h
   ·
    (with_reducible repeat (first|refine Zj (by first|assumption|omega|rfl|exact B_pos (by omega)) ?_|refine Zi (by first|assumption|omega|decide|exact B_not (by omega)) ?_|refine Ze (by first|assumption) ?_|dsimp only))
    exact this.2 h) (fun _=>by(rw[Zq.l2_eq]);((with_reducible repeat (first|refine Zj (by first|assumption|omega|rfl|exact B_pos (by omega)) ?_|refine Zi (by first|assumption|omega|decide|exact B_not (by omega)) ?_|refine Ze (by first|assumption) ?_|dsimp only));first|done|(with_reducible rfl)|simp (disch:=omega) only[w64]|(show False;done)))
 refine⟨fun h => ?_,fun h => ?_⟩ <;> (rw[Zq.l1_eq]) <;> (with_reducible repeat (first|refine Zj (by first|assumption|omega|rfl|exact B_pos (by omega)) ?_|refine Zi (by first|assumption|omega|decide|exact B_not (by omega)) ?_|refine Ze (by first|assumption) ?_|dsimp only))
 ·
  exact inner.1 h.2.2.2
 ·
  exact inner.2 fun k=>h ⟨h2,h3,h4,k⟩
end Go.Proofs.YtoljodiflhbohaaGreatDoor.V
namespace Go.Proofs.YtoljodiflhbohaaGreatDoor.V
open Go.RowKit Go.Proofs.YtoljodiflhbohaaGreatDoor.D Go.Proofs.YtoljodiflhbohaaGreatDoor.P
theorem In_ (x lo hi:Int):ZaZ.f x lo hi=some (B (lo≤x∧x≤hi)):=by
 rw[ZaZ.f_eq]
 by_cases h:x≥lo
 ·
  rw[if_pos h,ZfO,Zb5 (show x≤hi↔(lo≤x∧x≤hi)from⟨fun h' => ⟨h,h'⟩,fun h' => h'.2⟩)]
 ·
  rw[if_neg h,B_neg (fun h' => h h'.1)]
def LawS (g:List (List Int)) (a:Int):Prop:=T g 0 a=a∧T g a 0=a∧(∀b:Int,0≤b→b < g.length→∀c:Int,0≤c→c < g.length→T g (T g a b) c=T g a (T g b c))∧∃b:Int,0≤b∧b < g.length∧T g a b=0∧T g b a=0
theorem Zj7 (g:List (List Int)):Grp g↔(1≤g.length∧g.length≤8)∧Tab g∧∀a:Int,0≤a→a < g.length→LawS g a:=by
 rw[Zhf]
 constructor
 ·
  intro h
  have hg:=(Zhf g).2 h
  refine⟨h.1,h.2.1,fun a a0 a1 => ?_⟩
  obtain⟨h1,h2,_,h4⟩:=h.2.2 a a0 a1
  exact⟨h1,h2,h4,hg.inv2 a0 a1⟩
 ·
  rintro⟨h1,h2,h3⟩
  refine⟨h1,h2,fun a a0 a1 => ?_⟩
  obtain⟨k1,k2,k3,b,b0,b1,hb,_⟩:=h3 a a0 a1
  exact⟨k1,k2,⟨b,b0,b1,hb⟩,k3⟩
theorem Is_ (g:List (List Int)):Zs.f g=some (B (Grp g)):=by
 rw[Zb5 (Zj7 g)]
 (rw[Zs.f_eq])
 by_cases c1:1≤(g.length:Int)∧(g.length:Int)≤8
 rotate_left
 ·
  rw[B_neg fun h=>c1 (by omega)]
  ((with_reducible repeat (first|refine Zj (by first|assumption|omega|rfl|exact B_pos (by omega)) ?_|refine Zi (by first|assumption|omega|decide|exact B_not (by omega)) ?_|refine Ze (by first|assumption|exact In_ _ _ _) ?_|dsimp only));first|done|(with_reducible rfl)|simp (disch:=omega) only[w64]|(show False;done))
 rw[Zb5 (show((1≤g.length∧g.length≤8)∧Tab g∧∀a:Int,0≤a→a < g.length→LawS g a)↔(Tab g∧∀a:Int,0≤a→a < g.length→LawS g a)from⟨fun h=>h.2,fun h=>⟨by omega,h⟩⟩)]
 (with_reducible repeat (first|refine Zj (by first|assumption|omega|rfl|exact B_pos (by omega)) ?_|refine Zi (by first|assumption|omega|decide|exact B_not (by omega)) ?_|refine Ze (by first|assumption|exact In_ _ _ _) ?_|dsimp only))
 have hw1:wrapI ((g.length:Int) - 1)=g.length - 1:=w64 (by omega) (by omega)
 refine scanB g.length (fun i=>Zs.l0 (g.length:Int) i g) (fun a=>(row g a).length=g.length∧AllIn g.length (row g a)) (∀a:Int,0≤a→a < g.length→LawS g a) (fun a a0 a1 _ => ?_) (fun ht => ?_)
 ·
  by_cases h2:((row g a).length:Int)=g.length
  rotate_left
  ·
   refine⟨fun h=>absurd h.1 (by omega),fun _ => ?_⟩
   (rw[Zs.l0_eq])
   ((with_reducible repeat (first|refine Zj (by first|assumption|omega|rfl|exact B_pos (by omega)) ?_|refine Zi (by first|assumption|omega|decide|exact B_not (by omega)) ?_|refine Ze (by first|assumption) ?_|dsimp only));first|done|(with_reducible rfl)|simp (disch:=omega) only[w64]|(show False;done))
  have inner:=scanI g.length (fun b=>Zs.l1 (g.length:Int) a b g) (fun b=>0≤T g a b∧T g a b < g.length) (some false) (Zs.l0 (g.length:Int) (a+1) g)
   (fun b b0 b1 _=>by refine⟨fun h => ?_,fun h => ?_⟩ <;> (rw[Zs.l1_eq,hw1]) <;> ((with_reducible repeat (first|refine Zj (by first|assumption|omega|rfl|exact B_pos (by omega)) ?_|refine Zi (by first|assumption|omega|decide|exact B_not (by omega)) ?_|refine Ze (by first|assumption|exact In_ _ _ _) ?_|dsimp only));first|done|(with_reducible rfl)|simp (disch:=omega) only[w64]|(show False;done))) (fun _=>by(rw[Zs.l1_eq]);((with_reducible repeat (first|refine Zj (by first|assumption|omega|rfl|exact B_pos (by omega)) ?_|refine Zi (by first|assumption|omega|decide|exact B_not (by omega)) ?_|refine Ze (by first|assumption) ?_|dsimp only));first|done|(with_reducible rfl)|simp (disch:=omega) only[w64]|(show False;done)))
  refine⟨fun h => ?_,fun h => ?_⟩ <;> (rw[Zs.l0_eq]) <;> (with_reducible repeat (first|refine Zj (by first|assumption|omega|rfl|exact B_pos (by omega)) ?_|refine Zi (by first|assumption|omega|decide|exact B_not (by omega)) ?_|refine Ze (by first|assumption) ?_|dsimp only))
  ·
   exact inner.1 fun j j0 j1=>h.2 j j0 (by omega)
  ·
   exact inner.2 fun k=>h ⟨by omega,fun j j0 j1=>k j j0 (by omega)⟩
 (rw[Zs.l0_eq])
 (with_reducible repeat (first|refine Zj (by first|assumption|omega|rfl|exact B_pos (by omega)) ?_|refine Zi (by first|assumption|omega|decide|exact B_not (by omega)) ?_|refine Ze (by first|assumption) ?_|dsimp only))
 refine scanT g.length (fun i=>Zs.l2 (g.length:Int) i g) (LawS g) (fun a a0 a1 _ => ?_) (fun _=>by(rw[Zs.l2_eq]);((with_reducible repeat (first|refine Zj (by first|assumption|omega|rfl|exact B_pos (by omega)) ?_|refine Zi (by first|assumption|omega|decide|exact B_not (by omega)) ?_|refine Ze (by first|assumption) ?_|dsimp only));first|done|(with_reducible rfl)|simp (disch:=omega) only[w64]|(show False;done)))
 have hlen:∀x:Int,0≤x→x < g.length→((row g x).length:Int)=g.length:=fun x x0 x1=>by rw[(ht x x0 x1).1]
 have hent:∀x y:Int,0≤x→x < g.length→0≤y→y < g.length→0≤T g x y∧T g x y < g.length:=fun x y x0 x1 y0 y1=>(ht x x0 x1).2 y y0 (by rw[hlen x x0 x1];exact y1)
 have l0:=hlen 0 (by omega) (by omega)
 have la:=hlen a a0 a1
 by_cases h2:T g 0 a=a
 rotate_left
 ·
  refine⟨fun h=>absurd h.1 h2,fun _ => ?_⟩
  (rw[Zs.l2_eq])
  ((with_reducible repeat (first|refine Zj (by first|assumption|omega|rfl|exact B_pos (by omega)) ?_|refine Zi (by first|assumption|omega|decide|exact B_not (by omega)) ?_|refine Ze (by first|assumption) ?_|dsimp only));first|done|(with_reducible rfl)|simp (disch:=omega) only[w64]|(show False;done))
 by_cases h3:T g a 0=a
 rotate_left
 ·
  refine⟨fun h=>absurd h.2.1 h3,fun _ => ?_⟩
  (rw[Zs.l2_eq])
  ((with_reducible repeat (first|refine Zj (by first|assumption|omega|rfl|exact B_pos (by omega)) ?_|refine Zi (by first|assumption|omega|decide|exact B_not (by omega)) ?_|refine Ze (by first|assumption) ?_|dsimp only));first|done|(with_reducible rfl)|simp (disch:=omega) only[w64]|(show False;done))
 let Fd:Int→Prop:=fun b=>∃j:Int,0≤j∧j < b∧T g a j=0∧T g j a=0
 have fd0:B (Fd 0)=false:=B_neg fun⟨j,j0,j1,_⟩=>by omega
 have inner:=scan g.length (fun b=>Zs.l3 (g.length:Int) a (B (Fd b)) b g) (fun b=>∀c:Int,0≤c→c < g.length→T g (T g a b) c=T g a (T g b c)) (some false) (fun b b0 b1 _=>by
  obtain⟨e0,e1⟩:=hent a b a0 a1 b0 b1
  have le:=hlen _ e0 e1
  have lb:=hlen b b0 b1
  have toj:Zs.l3 (g.length:Int) a (B (Fd b)) b g=Zs.l4 (g.length:Int) a (B (Fd (b+1))) b 0 g:=by
   by_cases k1:Fd b
   ·
    rw[B_pos k1,B_pos (show Fd (b+1)from by obtain⟨j,j0,j1,h⟩:=k1;exact⟨j,j0,by omega,h⟩)]
    (rw[Zs.l3_eq])
    ((with_reducible repeat (first|refine Zj (by first|assumption|omega|rfl|exact B_pos (by omega)) ?_|refine Zi (by first|assumption|omega|decide|exact B_not (by omega)) ?_|refine Ze (by first|assumption) ?_|dsimp only));first|done|(with_reducible rfl)|simp (disch:=omega) only[w64]|(show False;done))
   ·
    rw[B_neg k1]
    by_cases k2:T g a b=0
    ·
     have e:B (Fd (b+1))=decide (T g b a=0):=by
      by_cases k3:T g b a=0
      ·
       rw[B_pos ⟨b,b0,by omega,k2,k3⟩];simp[k3]
      ·
       rw[B_neg]
       ·
        simp[k3]
       ·
        rintro⟨j,j0,j1,ja,jb⟩
        by_cases ej:j=b
        ·
         subst ej;exact k3 jb
        ·
         exact k1 ⟨j,j0,by omega,ja,jb⟩
     rw[e]
     (rw[Zs.l3_eq])
     ((with_reducible repeat (first|refine Zj (by first|assumption|omega|rfl|exact B_pos (by omega)) ?_|refine Zi (by first|assumption|omega|decide|exact B_not (by omega)) ?_|refine Ze (by first|assumption) ?_|dsimp only));first|done|(with_reducible rfl)|simp (disch:=omega) only[w64]|(show False;done))
    ·
     rw[B_neg (show ¬ Fd (b+1)from by
      rintro⟨j,j0,j1,ja,jb⟩
      by_cases ej:j=b
      ·
       subst ej;exact k2 ja
      ·
       exact k1 ⟨j,j0,by omega,ja,jb⟩)]
     (rw[Zs.l3_eq])
     ((with_reducible repeat (first|refine Zj (by first|assumption|omega|rfl|exact B_pos (by omega)) ?_|refine Zi (by first|assumption|omega|decide|exact B_not (by omega)) ?_|refine Ze (by first|assumption) ?_|dsimp only));first|done|(with_reducible rfl)|simp (disch:=omega) only[w64]|(show False;done))
  have inner4:=scanI g.length (fun c=>Zs.l4 (g.length:Int) a (B (Fd (b+1))) b c g) (fun c=>T g (T g a b) c=T g a (T g b c)) (some false) (Zs.l3 (g.length:Int) a (B (Fd (b+1))) (b+1) g) (fun c c0 c1 _=>by
   obtain⟨f0,f1⟩:=hent b c b0 b1 c0 c1
   refine⟨fun h => ?_,fun h => ?_⟩ <;> (rw[Zs.l4_eq]) <;> ((with_reducible repeat (first|refine Zj (by first|assumption|omega|rfl|exact B_pos (by omega)) ?_|refine Zi (by first|assumption|omega|decide|exact B_not (by omega)) ?_|refine Ze (by first|assumption) ?_|dsimp only));first|done|(with_reducible rfl)|simp (disch:=omega) only[w64]|(show False;done))) (fun _=>by(rw[Zs.l4_eq]);((with_reducible repeat (first|refine Zj (by first|assumption|omega|rfl|exact B_pos (by omega)) ?_|refine Zi (by first|assumption|omega|decide|exact B_not (by omega)) ?_|refine Ze (by first|assumption) ?_|dsimp only));first|done|(with_reducible rfl)|simp (disch:=omega) only[w64]|(show False;done)))
  exact⟨fun h=>toj.trans (inner4.1 h),fun h=>toj.trans (inner4.2 h)⟩)
 have st:Zs.l2 (g.length:Int) a g=Zs.l3 (g.length:Int) a (B (Fd 0)) 0 g:=by
  rw[fd0]
  (rw[Zs.l2_eq])
  ((with_reducible repeat (first|refine Zj (by first|assumption|omega|rfl|exact B_pos (by omega)) ?_|refine Zi (by first|assumption|omega|decide|exact B_not (by omega)) ?_|refine Ze (by first|assumption) ?_|dsimp only));first|done|(with_reducible rfl)|simp (disch:=omega) only[w64]|(show False;done))
 rw[st]
 rcases inner with ⟨h5,h6⟩|⟨b,b0,b1,_,h5,_,h6⟩
 ·
  simp only[h6]
  by_cases h7:Fd g.length
  ·
   refine⟨fun _ => ?_,fun h=>absurd ⟨h2,h3,h5,h7⟩ h⟩
   rw[B_pos h7]
   (rw[Zs.l3_eq])
   ((with_reducible repeat (first|refine Zj (by first|assumption|omega|rfl|exact B_pos (by omega)) ?_|refine Zi (by first|assumption|omega|decide|exact B_not (by omega)) ?_|refine Ze (by first|assumption) ?_|dsimp only));first|done|(with_reducible rfl)|simp (disch:=omega) only[w64]|(show False;done))
  ·
   refine⟨fun h=>absurd h.2.2.2 h7,fun h => ?_⟩
   rw[B_neg h7]
   (rw[Zs.l3_eq])
   ((with_reducible repeat (first|refine Zj (by first|assumption|omega|rfl|exact B_pos (by omega)) ?_|refine Zi (by first|assumption|omega|decide|exact B_not (by omega)) ?_|refine Ze (by first|assumption) ?_|dsimp only));first|done|(with_reducible rfl)|simp (disch:=omega) only[w64]|(show False;done))
 ·
  exact⟨fun h=>absurd (h.2.2.1 b b0 b1) h5,fun _=>h6⟩
theorem gcd0 (y:Nat):∀x:Nat,Zbp.l0 (x:Int) (y:Int)=some ((Nat.gcd x y:Nat):Int):=by
 induction y using Nat.strongRecOn with
 | _ y ih =>
  intro x
  (rw[Zbp.l0_eq])
  by_cases h:y=0
  ·
   subst h
   simp
  ·
   have e:Int.tmod (x:Int) (y:Int)=((x%y:Nat):Int):=by rw[Int.ofNat_tmod]
   have:=ih (x%y) (Nat.mod_lt _ (by omega)) y
   rw[show Nat.gcd y (x%y)=Nat.gcd x y by rw[Nat.gcd_comm x y,Nat.gcd_rec y x,Nat.gcd_comm]]at this
   rw[e]
   (with_reducible repeat (first|refine Zj (by first|assumption|omega|rfl|exact B_pos (by omega)) ?_|refine Zi (by first|assumption|omega|decide|exact B_not (by omega)) ?_|refine Ze (by first|assumption) ?_|dsimp only))
   exact this
theorem gcd_ {a b:Int} (ha:0≤a) (hb:0≤b):Zbp.f a b=some ((Int.gcd a b:Nat):Int):=by
 obtain⟨x,rfl⟩:=Int.eq_ofNat_of_zero_le ha
 obtain⟨y,rfl⟩:=Int.eq_ofNat_of_zero_le hb
 have:=gcd0 y x
 rw[Zbp.f_eq]
 simpa [Int.gcd] using this
theorem Gcd0 (y:Nat):∀x:Nat,x≤9223372036854775807→y≤9223372036854775807→ZaS.l0 (x:Int) (y:Int)=some ((Nat.gcd x y:Nat):Int):=by
 induction y using Nat.strongRecOn with
 | _ y ih =>
  intro x hx hy
  (rw[ZaS.l0_eq])
  by_cases h:y=0
  ·
   subst h
   have hw:wrapI (0 - (x:Int)) = -(x:Int):=by rw[w64 (by omega) (by omega)];omega
   rw[hw,if_pos (by simp),if_neg (by omega)]
   simp
  ·
   have e:Int.tmod (x:Int) (y:Int)=((x%y:Nat):Int):=by rw[Int.ofNat_tmod]
   have hlt:=Nat.mod_lt x (show y > 0 by omega)
   have:=ih (x%y) hlt y hy (by omega)
   rw[show Nat.gcd y (x%y)=Nat.gcd x y by rw[Nat.gcd_comm x y,Nat.gcd_rec y x,Nat.gcd_comm]]at this
   rw[e]
   (with_reducible repeat (first|refine Zj (by first|assumption|omega|rfl|exact B_pos (by omega)) ?_|refine Zi (by first|assumption|omega|decide|exact B_not (by omega)) ?_|refine Ze (by first|assumption) ?_|dsimp only))
   exact this
theorem Gcd_ {a b:Int} (ha:0≤a) (hb:0≤b) (ha' : a≤9223372036854775807) (hb' : b≤9223372036854775807):ZaS.f a b=some ((Int.gcd a b:Nat):Int):=by
 obtain⟨x,rfl⟩:=Int.eq_ofNat_of_zero_le ha
 obtain⟨y,rfl⟩:=Int.eq_ofNat_of_zero_le hb
 have:=Gcd0 y x (by omega) (by omega)
 rw[ZaS.f_eq]
 simpa [Int.gcd] using this
theorem Grp.foldl_in {g:List (List Int)} (hg:Grp g):∀(xs:List Int) (x:Int),AllIn g.length xs→0≤x→x < g.length→0≤xs.foldl (T g) x∧xs.foldl (T g) x < g.length:=by
 intro xs
 induction xs with
 | nil=>exact fun x _ a b=>⟨a,b⟩
 | cons y ys ih =>
  intro x hx x0 x1
  obtain⟨y0,y1⟩:=hx.mem (List.mem_cons_self ..)
  obtain⟨z0,z1⟩:=hg.ent x y x0 x1 y0 y1
  exact ih _ (ZbU fun z hz=>hx.mem (List.mem_cons_of_mem _ hz)) z0 z1
theorem Zi0 {xs:List Int} {m:Nat} (h:m < xs.length):xs.drop m=rd xs m :: xs.drop (m+1):=by
 rw[List.drop_eq_getElem_cons h,ZbW h]
theorem ZcR {xs:List Int} {m:Nat} (h:m < xs.length):xs.take (m+1)=xs.take m++[rd xs m]:=by
 rw[List.take_succ_eq_append_getElem h,ZbW h]
theorem times {g:List (List Int)} (hg:Grp g) (xs:List Int) (hx:AllIn g.length xs) (hl:xs.length≤maxLen):Zl.f g xs=some (xs.foldl (T g) 0):=by
 have hm:=Zcj
 have n1:=hg.n1
 rw[Zl.f_eq]
 have:=up xs.length (fun i=>Zl.l0 ((xs.take i).foldl (T g) 0) xs (xs.length:Int) (i:Int) g) (fun i hi=>by
  obtain⟨z0,z1⟩:=hg.foldl_in (xs.take i) 0 (hx.take i) (by omega) (by omega)
  obtain⟨y0,y1⟩:=hx i (by omega) (by omega)
  have hr:((row g ((xs.take i).foldl (T g) 0)).length:Int)=g.length:=by rw[hg.row _ z0 z1]
  have hw:wrapI ((i:Int)+1)=((i+1:Nat):Int):=by rw[w64 (by omega) (by omega)];omega
  rw[ZcR hi,List.foldl_append,List.foldl_cons,List.foldl_nil]
  (rw[Zl.l0_eq,hw])
  ((with_reducible repeat (first|refine Zj (by first|assumption|omega|rfl|exact B_pos (by omega)) ?_|refine Zi (by first|assumption|omega|decide|exact B_not (by omega)) ?_|refine Ze (by first|assumption) ?_|dsimp only));first|done|(with_reducible rfl)|simp (disch:=omega) only[w64]|(show False;done)))
 simp only[List.take_zero,List.foldl_nil,List.take_length,Int.natCast_zero]at this
 rw[this]
 (rw[Zl.l0_eq])
 ((with_reducible repeat (first|refine Zj (by first|assumption|omega|rfl|exact B_pos (by omega)) ?_|refine Zi (by first|assumption|omega|decide|exact B_not (by omega)) ?_|refine Ze (by first|assumption) ?_|dsimp only));first|done|(with_reducible rfl)|simp (disch:=omega) only[w64]|(show False;done))
theorem times2 {g:List (List Int)} (hg:Grp g) {x y:Int} (x0:0≤x) (x1:x < g.length) (y0:0≤y) (y1:y < g.length):Zl.f g [x,y]=some (T g x y):=by
 have:=times hg [x,y] (ZbH x0 x1 y0 y1) (by unfold maxLen;simp)
 simpa [hg.one x x0 x1] using this
end Go.Proofs.YtoljodiflhbohaaGreatDoor.V
namespace Go.Proofs.YtoljodiflhbohaaGreatDoor.V
open Go.RowKit Go.Proofs.YtoljodiflhbohaaGreatDoor.D Go.Proofs.YtoljodiflhbohaaGreatDoor.P
structure Mdl (g:List (List Int)) (m:Int) (u:List Int):Prop where
 m2:2≤m
 m12:m≤12
 len:u.length=g.length
 unit:∀i:Int,0≤i→i < u.length→1≤rd u i∧rd u i < m∧Int.gcd (rd u i) m=1
 hom:∀i:Int,0≤i→i < u.length→∀j:Int,0≤j→j < u.length→rd u (T g i j)=rd u i*rd u j%m
theorem Zku:∀m:Nat,m≤12→∀u:Nat,u < m→Nat.gcd u m=1→u=u*u%m→1≤u→u=1:=by decide
theorem Mdl.one {g:List (List Int)} {m:Int} {u:List Int} (hg:Grp g) (h:Mdl g m u):rd u 0=1:=by
 have n1:=hg.n1
 have hl:=h.len
 obtain⟨a1,a2,a3⟩:=h.unit 0 (by omega) (by omega)
 have e:=h.hom 0 (by omega) (by omega) 0 (by omega) (by omega)
 rw[hg.one 0 (by omega) (by omega)]at e
 have m2:=h.m2;have m12:=h.m12
 obtain⟨M,rfl⟩:=Int.eq_ofNat_of_zero_le (show 0≤m by omega)
 obtain⟨U,hU⟩:=Int.eq_ofNat_of_zero_le (show 0≤rd u 0 by omega)
 rw[hU]at a1 a2 a3 e ⊢
 have:=Zku M (by omega) U (by omega) (by simpa [Int.gcd] using a3) (by exact_mod_cast e) (by omega)
 omega
theorem Zcs {a b m:Int} (a0:0≤a) (a1:a < m) (b0:0≤b) (b1:b < m) (hm:m≤1000):0≤a*b∧a*b≤1000000:=by
 refine⟨Int.mul_nonneg a0 b0,?_⟩
 have h1:a*b≤1000*b:=Int.mul_le_mul_of_nonneg_right (by omega) b0
 omega
theorem Mdl.at {g:List (List Int)} {m:Int} {u:List Int} (h:Mdl g m u) {x:Int} (x0:0≤x) (x1:x < g.length):1≤rd u x∧rd u x < m:=by
 have hl:=h.len
 obtain⟨a,b,_⟩:=h.unit x x0 (by omega)
 exact⟨a,b⟩
theorem ZdC {m x:Int} {u:List Int} {g:List (List Int)} (hm:Mdl g m u) (x0:0≤x) (x1:x < g.length) {b:Int} (b0:0≤b) (b1:b < m):0≤rd u x*b∧rd u x*b≤1000000:=by
 have m12:=hm.m12
 have:=hm.at x0 x1
 exact Zcs (by omega) this.2 b0 b1 (by omega)
theorem Zlu {m x:Int} (m0:0≤m):Zbj.f m x=some (B (1≤x∧x < m∧Int.gcd x m=1)):=by
 rw[Zbj.f_eq]
 by_cases h1:1≤x∧x < m
 ·
  have h:=gcd_ m0 (show 0≤x by omega)
  (with_reducible repeat (first|refine Zj (by first|assumption|omega|rfl|exact B_pos (by omega)) ?_|refine Zi (by first|assumption|omega|decide|exact B_not (by omega)) ?_|refine Ze (by first|assumption) ?_|dsimp only))
  rw[Int.gcd_comm]
  by_cases h3:Int.gcd x m=1
  ·
   rw[B_pos ⟨h1.1,h1.2,h3⟩];simp[h3]
  ·
   rw[B_neg fun h=>h3 h.2.2]
   simp;omega
 ·
  rw[B_neg fun h=>h1 ⟨h.1,h.2.1⟩]
  by_cases h2:1≤x <;> ((with_reducible repeat (first|refine Zj (by first|assumption|omega|rfl|exact B_pos (by omega)) ?_|refine Zi (by first|assumption|omega|decide|exact B_not (by omega)) ?_|refine Ze (by first|assumption) ?_|dsimp only));first|done|(with_reducible rfl)|simp (disch:=omega) only[w64]|(show False;done))
theorem Zd4 (m:Int):Za4.f m=some (B (2≤m∧m≤12)):=by
 rw[Za4.f_eq]
 by_cases h:m≥2
 ·
  rw[if_pos h,ZfO,Zb5 (show m≤12↔(2≤m∧m≤12)from⟨fun h' => ⟨h,h'⟩,fun h' => h'.2⟩)]
 ·
  rw[if_neg h,B_neg (fun h' => h h'.1)]
theorem Zjh (g:List (List Int)) (m:Int) (u:List Int):Mdl g m u↔(2≤m∧m≤12)∧u.length=g.length∧(∀i:Int,0≤i→i < u.length→1≤rd u i∧rd u i < m∧Int.gcd (rd u i) m=1)∧∀i:Int,0≤i→i < u.length→∀j:Int,0≤j→j < u.length→rd u (T g i j)=rd u i*rd u j%m :=
 ⟨fun h=>⟨⟨h.m2,h.m12⟩,h.len,h.unit,h.hom⟩,fun⟨⟨a,b⟩,c,d,e⟩=>⟨a,b,c,d,e⟩⟩
theorem Zf4 {g:List (List Int)} (hg:Grp g) (m:Int) (u:List Int) (hl:u.length≤maxLen):ZC.f g m u=some (B (Mdl g m u)):=by
 have hm:=Zcj
 have n1:=hg.n1
 (rw[ZC.f_eq])
 by_cases h1:2≤m∧m≤12
 rotate_left
 ·
  rw[B_neg fun h=>h1 ⟨h.m2,h.m12⟩]
  ((with_reducible repeat (first|refine Zj (by first|assumption|omega|rfl|exact B_pos (by omega)) ?_|refine Zi (by first|assumption|omega|decide|exact B_not (by omega)) ?_|refine Ze (by first|assumption|exact Zd4 _|exact ZX.f_eq _) ?_|dsimp only));first|done|(with_reducible rfl)|simp (disch:=omega) only[w64]|(show False;done))
 by_cases h3:(u.length:Int)=g.length
 rotate_left
 ·
  rw[B_neg fun h=>h3 (by rw[h.len])]
  ((with_reducible repeat (first|refine Zj (by first|assumption|omega|rfl|exact B_pos (by omega)) ?_|refine Zi (by first|assumption|omega|decide|exact B_not (by omega)) ?_|refine Ze (by first|assumption|exact Zd4 _|exact ZX.f_eq _) ?_|dsimp only));first|done|(with_reducible rfl)|simp (disch:=omega) only[w64]|(show False;done))
 by_cases h5:rd u 0=1
 rotate_left
 ·
  rw[B_neg fun h=>h5 (h.one hg)]
  ((with_reducible repeat (first|refine Zj (by first|assumption|omega|rfl|exact B_pos (by omega)) ?_|refine Zi (by first|assumption|omega|decide|exact B_not (by omega)) ?_|refine Ze (by first|assumption|exact Zd4 _|exact ZX.f_eq _) ?_|dsimp only));first|done|(with_reducible rfl)|simp (disch:=omega) only[w64]|(show False;done))
 (with_reducible repeat (first|refine Zj (by first|assumption|omega|rfl|exact B_pos (by omega)) ?_|refine Zi (by first|assumption|omega|decide|exact B_not (by omega)) ?_|refine Ze (by first|assumption|exact Zd4 _|exact ZX.f_eq _) ?_|dsimp only))
 rw[Zb5 (Zjh g m u),Zb5 (show((2≤m∧m≤12)∧u.length=g.length∧(∀i:Int,0≤i→i < u.length→1≤rd u i∧rd u i < m∧Int.gcd (rd u i) m=1)∧∀i:Int,0≤i→i < u.length→∀j:Int,0≤j→j < u.length→rd u (T g i j)=rd u i*rd u j%m)↔_ from⟨fun h=>h.2.2,fun h=>⟨h1,by omega,h⟩⟩)]
 refine scanB u.length (fun i=>ZC.l0 u (u.length:Int) i g m u) (fun i=>1≤rd u i∧rd u i < m∧Int.gcd (rd u i) m=1) _ (fun i i0 i1 _ => ?_) (fun hu => ?_)
 ·
  have hu:=Zlu (m:=m) (x:=rd u i) (by omega)
  refine⟨fun h => ?_,fun h => ?_⟩ <;> (rw[ZC.l0_eq]) <;> ((with_reducible repeat (first|refine Zj (by first|assumption|omega|rfl|exact B_pos (by omega)) ?_|refine Zi (by first|assumption|omega|decide|exact B_not (by omega)) ?_|refine Ze (by first|assumption) ?_|dsimp only));first|done|(with_reducible rfl)|simp (disch:=omega) only[w64]|(show False;done))
 (rw[ZC.l0_eq])
 (with_reducible repeat (first|refine Zj (by first|assumption|omega|rfl|exact B_pos (by omega)) ?_|refine Zi (by first|assumption|omega|decide|exact B_not (by omega)) ?_|refine Ze (by first|assumption|exact ZX.f_eq _) ?_|dsimp only))
 rw[←h3]
 refine scanT u.length (fun i=>ZC.l1 (u.length:Int) i g m u) (fun i=>∀j:Int,0≤j→j < u.length→rd u (T g i j)=rd u i*rd u j%m) (fun i i0 i1 _ => ?_) (fun _=>by(rw[ZC.l1_eq]);((with_reducible repeat (first|refine Zj (by first|assumption|omega|rfl|exact B_pos (by omega)) ?_|refine Zi (by first|assumption|omega|decide|exact B_not (by omega)) ?_|refine Ze (by first|assumption) ?_|dsimp only));first|done|(with_reducible rfl)|simp (disch:=omega) only[w64]|(show False;done)))
 have inner:=scanI u.length (fun j=>ZC.l2 i (u.length:Int) i (u.length:Int) j g m u) (fun j=>rd u (T g i j)=rd u i*rd u j%m) (some false) (ZC.l1 (u.length:Int) (i+1) g m u) (fun j j0 j1 _=>by
  have ht:=times2 hg i0 (by omega) j0 (by omega)
  obtain⟨e0,e1⟩:=hg.ent i j i0 (by omega) j0 (by omega)
  obtain⟨p0,p1⟩:=Zcs (show 0≤rd u i by have:=(hu i i0 i1).1;omega) (hu i i0 i1).2.1 (show 0≤rd u j by have:=(hu j j0 j1).1;omega) (hu j j0 j1).2.1 (by omega)
  have hwp:wrapI (rd u i*rd u j)=rd u i*rd u j:=w64 (by omega) (by omega)
  have e:=Zcl (m:=m) p0
  refine⟨fun h => ?_,fun h => ?_⟩ <;> (rw[ZC.l2_eq,hwp,e]) <;> ((with_reducible repeat (first|refine Zj (by first|assumption|omega|rfl|exact B_pos (by omega)) ?_|refine Zi (by first|assumption|omega|decide|exact B_not (by omega)) ?_|refine Ze (by first|assumption) ?_|dsimp only));first|done|(with_reducible rfl)|simp (disch:=omega) only[w64]|(show False;done))) (fun _=>by(rw[ZC.l2_eq]);((with_reducible repeat (first|refine Zj (by first|assumption|omega|rfl|exact B_pos (by omega)) ?_|refine Zi (by first|assumption|omega|decide|exact B_not (by omega)) ?_|refine Ze (by first|assumption) ?_|dsimp only));first|done|(with_reducible rfl)|simp (disch:=omega) only[w64]|(show False;done)))
 refine⟨fun h => ?_,fun h => ?_⟩ <;> (rw[ZC.l1_eq]) <;> (with_reducible repeat (first|refine Zj (by first|assumption|omega|rfl|exact B_pos (by omega)) ?_|refine Zi (by first|assumption|omega|decide|exact B_not (by omega)) ?_|refine Ze (by first|assumption|exact ZX.f_eq _) ?_|dsimp only)) <;> rw[←h3]
 ·
  exact inner.1 h
 ·
  exact inner.2 h
theorem Is02 {g:List (List Int)} (hg:Grp g) (m:Int) (u:List Int) (hl:u.length≤maxLen):Zaj.f g m u=some (B (Mdl g m u)):=by
 have hm:=Zcj
 have n1:=hg.n1
 (rw[Zaj.f_eq])
 by_cases h1:2≤m∧m≤12
 rotate_left
 ·
  rw[B_neg fun h=>h1 ⟨h.m2,h.m12⟩]
  ((with_reducible repeat (first|refine Zj (by first|assumption|omega|rfl|exact B_pos (by omega)) ?_|refine Zi (by first|assumption|omega|decide|exact B_not (by omega)) ?_|refine Ze (by first|assumption|exact In_ _ _ _) ?_|dsimp only));first|done|(with_reducible rfl)|simp (disch:=omega) only[w64]|(show False;done))
 by_cases h3:(u.length:Int)=g.length
 rotate_left
 ·
  rw[B_neg fun h=>h3 (by rw[h.len])]
  ((with_reducible repeat (first|refine Zj (by first|assumption|omega|rfl|exact B_pos (by omega)) ?_|refine Zi (by first|assumption|omega|decide|exact B_not (by omega)) ?_|refine Ze (by first|assumption|exact In_ _ _ _) ?_|dsimp only));first|done|(with_reducible rfl)|simp (disch:=omega) only[w64]|(show False;done))
 (with_reducible repeat (first|refine Zj (by first|assumption|omega|rfl|exact B_pos (by omega)) ?_|refine Zi (by first|assumption|omega|decide|exact B_not (by omega)) ?_|refine Ze (by first|assumption|exact In_ _ _ _) ?_|dsimp only))
 rw[Zb5 (Zjh g m u),Zb5 (show((2≤m∧m≤12)∧u.length=g.length∧(∀i:Int,0≤i→i < u.length→1≤rd u i∧rd u i < m∧Int.gcd (rd u i) m=1)∧∀i:Int,0≤i→i < u.length→∀j:Int,0≤j→j < u.length→rd u (T g i j)=rd u i*rd u j%m)↔_ from⟨fun h=>h.2.2,fun h=>⟨h1,by omega,h⟩⟩)]
 have hw1:wrapI (m - 1)=m - 1:=w64 (by omega) (by omega)
 refine scanB u.length (fun i=>Zaj.l0 i g m u) (fun i=>1≤rd u i∧rd u i < m∧Int.gcd (rd u i) m=1) _ (fun i i0 i1 _ => ?_) (fun hu => ?_)
 ·
  refine⟨fun h => ?_,fun h => ?_⟩ <;> (rw[Zaj.l0_eq,hw1])
  ·
   have hgc:=Gcd_ (a:=rd u i) (b:=m) (by omega) (by omega) (by omega) (by omega)
   ((with_reducible repeat (first|refine Zj (by first|assumption|omega|rfl|exact B_pos (by omega)) ?_|refine Zi (by first|assumption|omega|decide|exact B_not (by omega)) ?_|refine Ze (by first|assumption|exact In_ _ _ _) ?_|dsimp only));first|done|(with_reducible rfl)|simp (disch:=omega) only[w64]|(show False;done))
  ·
   by_cases h6:1≤rd u i∧rd u i < m
   ·
    have hgc:=Gcd_ (a:=rd u i) (b:=m) (by omega) (by omega) (by omega) (by omega)
    ((with_reducible repeat (first|refine Zj (by first|assumption|omega|rfl|exact B_pos (by omega)) ?_|refine Zi (by first|assumption|omega|decide|exact B_not (by omega)) ?_|refine Ze (by first|assumption|exact In_ _ _ _) ?_|dsimp only));first|done|(with_reducible rfl)|simp (disch:=omega) only[w64]|(show False;done))
   ·
    ((with_reducible repeat (first|refine Zj (by first|assumption|omega|rfl|exact B_pos (by omega)) ?_|refine Zi (by first|assumption|omega|decide|exact B_not (by omega)) ?_|refine Ze (by first|assumption|exact In_ _ _ _) ?_|dsimp only));first|done|(with_reducible rfl)|simp (disch:=omega) only[w64]|(show False;done))
 (rw[Zaj.l0_eq])
 (with_reducible repeat (first|refine Zj (by first|assumption|omega|rfl|exact B_pos (by omega)) ?_|refine Zi (by first|assumption|omega|decide|exact B_not (by omega)) ?_|refine Ze (by first|assumption) ?_|dsimp only))
 refine scanT u.length (fun i=>Zaj.l1 i g m u) (fun i=>∀j:Int,0≤j→j < u.length→rd u (T g i j)=rd u i*rd u j%m) (fun i i0 i1 _ => ?_) (fun _=>by(rw[Zaj.l1_eq]);((with_reducible repeat (first|refine Zj (by first|assumption|omega|rfl|exact B_pos (by omega)) ?_|refine Zi (by first|assumption|omega|decide|exact B_not (by omega)) ?_|refine Ze (by first|assumption) ?_|dsimp only));first|done|(with_reducible rfl)|simp (disch:=omega) only[w64]|(show False;done)))
 have ri:=hg.row i i0 (by omega)
 have inner:=scanI u.length (fun j=>Zaj.l2 i j g m u) (fun j=>rd u (T g i j)=rd u i*rd u j%m) (some false) (Zaj.l1 (i+1) g m u) (fun j j0 j1 _=>by
  obtain⟨e0,e1⟩:=hg.ent i j i0 (by omega) j0 (by omega)
  obtain⟨p0,p1⟩:=Zcs (show 0≤rd u i by have:=(hu i i0 i1).1;omega) (hu i i0 i1).2.1 (show 0≤rd u j by have:=(hu j j0 j1).1;omega) (hu j j0 j1).2.1 (by omega)
  have hwp:wrapI (rd u i*rd u j)=rd u i*rd u j:=w64 (by omega) (by omega)
  have e:=Zcl (m:=m) p0
  refine⟨fun h => ?_,fun h => ?_⟩ <;> (rw[Zaj.l2_eq,hwp,e]) <;> ((with_reducible repeat (first|refine Zj (by first|assumption|omega|rfl|exact B_pos (by omega)) ?_|refine Zi (by first|assumption|omega|decide|exact B_not (by omega)) ?_|refine Ze (by first|assumption) ?_|dsimp only));first|done|(with_reducible rfl)|simp (disch:=omega) only[w64]|(show False;done))) (fun _=>by(rw[Zaj.l2_eq]);((with_reducible repeat (first|refine Zj (by first|assumption|omega|rfl|exact B_pos (by omega)) ?_|refine Zi (by first|assumption|omega|decide|exact B_not (by omega)) ?_|refine Ze (by first|assumption) ?_|dsimp only));first|done|(with_reducible rfl)|simp (disch:=omega) only[w64]|(show False;done)))
 refine⟨fun h => ?_,fun h => ?_⟩ <;> (rw[Zaj.l1_eq]) <;> (with_reducible repeat (first|refine Zj (by first|assumption|omega|rfl|exact B_pos (by omega)) ?_|refine Zi (by first|assumption|omega|decide|exact B_not (by omega)) ?_|refine Ze (by first|assumption) ?_|dsimp only))
 ·
  exact inner.1 h
 ·
  exact inner.2 h
def GM (g:List (List Int)) (m:Int) (u:List Int):Prop:=Grp g∧Mdl g m u
theorem Zc0 (g:List (List Int)) (hl:g.length≤maxLen) (hr:∀r∈g,r.length≤maxLen) (m:Int) (u:List Int) (hu:u.length≤maxLen):ZA.f g [(m,u)]=some (B (GM g m u)):=by
 have hG:=Ze1 g hl hr
 rw[ZA.f_eq]
 have st:ZA.l0 [(m,u)] (([(m,u)]:List (Int×List Int)).length:Int) 1 g=some true:=by(rw[ZA.l0_eq]);exact if_neg (by simp)
 (rw[ZA.l0_eq])
 rw[if_pos (by simp),if_pos (by simp),if_pos (by simp),hG]
 by_cases h1:Grp g
 ·
  have hM:=Zf4 h1 m u hu
  rw[B_pos h1]
  show(Option.bind (ZC.f g m u) _)=_
  rw[hM]
  by_cases h2:Mdl g m u
  ·
   rw[B_pos h2,B_pos ⟨h1,h2⟩]
   simpa [show wrapI 1=1 from w64 (by omega) (by omega)] using st
  ·
   rw[B_neg h2,B_neg fun h=>h2 h.2]
   rfl
 ·
  rw[B_neg h1,B_neg fun h=>h1 h.1]
  rfl
end Go.Proofs.YtoljodiflhbohaaGreatDoor.V
namespace Go.Proofs.YtoljodiflhbohaaGreatDoor.V
open Go.RowKit Go.Proofs.YtoljodiflhbohaaGreatDoor.D Go.Proofs.YtoljodiflhbohaaGreatDoor.P
theorem Mod_ {a m:Int} (h0 : -1000000000≤a) (h1:a≤1000000000) (m0:0 < m) (m1:m≤1000000):Za0.f a m=some (a%m):=by
 rw[Za0.f_eq]
 have t0:=Int.tmod_lt_of_pos a m0
 have t1 : -m < Int.tmod a m:=Int.lt_tmod_of_pos a m0
 have hq:=Int.mul_tdiv_add_tmod a m
 have h5:(m*a.tdiv m+a.tmod m)%m=a.tmod m%m:=by rw[Int.add_comm,Int.add_mul_emod_self_left]
 rw[hq]at h5
 rw[w64 (by omega) (by omega),Int.tmod_eq_emod_of_nonneg (show 0≤Int.tmod a m+m by omega),Int.add_emod_right,←h5]
 ((with_reducible repeat (first|refine Zj (by first|assumption|omega|rfl|exact B_pos (by omega)) ?_|refine Zi (by first|assumption|omega|decide|exact B_not (by omega)) ?_|refine Ze (by first|assumption) ?_|dsimp only));first|done|(with_reducible rfl)|simp (disch:=omega) only[w64]|(show False;done))
theorem Zk6:∀n:Nat,n≤7→∀i:Nat,i≤5→n ^ i≤16807:=by decide
theorem Zh3 {a:Int} (h0:0≤a) (h1:a≤7) (i:Nat) (hi:i≤5):0≤a ^ i∧a ^ i≤16807:=by
 obtain⟨n,rfl⟩:=Int.eq_ofNat_of_zero_le h0
 have h:=Zk6 n (by omega) i hi
 rw[←Int.natCast_pow]
 omega
def cells (g:List (List Int)) (d:Int):Int:=((g.length:Int) - 1) ^ d.toNat
theorem ZbA {g:List (List Int)} (hg:Grp g) {d:Int} (h1:d≤5):0≤cells g d∧cells g d≤16807:=by
 have n8:=hg.n8;have n0:=hg.n1
 exact Zh3 (by omega) (by omega) _ (by omega)
theorem power {a d:Int} (h0:0≤a) (h1:a≤7) (d0:0≤d) (d1:d≤4):Zbb.f a d=some (a ^ d.toNat):=by
 obtain⟨n,rfl⟩:=Int.eq_ofNat_of_zero_le d0
 have:=up n (fun j=>Zbb.l0 a (a ^ j) (n:Int) (j:Int)) (fun j hj=>by
  have hw:wrapI ((j:Int)+1)=((j+1:Nat):Int):=by rw[w64 (by omega) (by omega)];omega
  have b:=Zh3 h0 h1 (j+1) (by omega)
  have hp:wrapI (a ^ j*a)=a ^ (j+1):=by rw[show a ^ j*a=a ^ (j+1)from(Int.pow_succ a j).symm];exact w64 (by omega) (by omega)
  rw[Zbb.l0_eq,hw,hp]
  ((with_reducible repeat (first|refine Zj (by first|assumption|omega|rfl|exact B_pos (by omega)) ?_|refine Zi (by first|assumption|omega|decide|exact B_not (by omega)) ?_|refine Ze (by first|assumption) ?_|dsimp only));first|done|(with_reducible rfl)|simp (disch:=omega) only[w64]|(show False;done)))
 simp only[Int.pow_zero,Int.natCast_zero]at this
 rw[Zbb.f_eq,this,Zbb.l0_eq,Int.toNat_natCast]
 ((with_reducible repeat (first|refine Zj (by first|assumption|omega|rfl|exact B_pos (by omega)) ?_|refine Zi (by first|assumption|omega|decide|exact B_not (by omega)) ?_|refine Ze (by first|assumption) ?_|dsimp only));first|done|(with_reducible rfl)|simp (disch:=omega) only[w64]|(show False;done))
theorem Zky {g:List (List Int)} (hg:Grp g) {d:Int} (d0:0≤d) (d1:d≤4):Zbn.f g d=some (cells g d):=by
 have n8:=hg.n8;have n0:=hg.n1
 have hw:wrapI ((g.length:Int) - 1)=g.length - 1:=w64 (by omega) (by omega)
 have hp:=power (a:=(g.length:Int) - 1) (by omega) (by omega) d0 d1
 show _=some (((g.length:Int) - 1) ^ d.toNat)
 rw[Zbn.f_eq,ZX.f_eq,Option.bind_some,hw]
 ((with_reducible repeat (first|refine Zj (by first|assumption|omega|rfl|exact B_pos (by omega)) ?_|refine Zi (by first|assumption|omega|decide|exact B_not (by omega)) ?_|refine Ze (by first|assumption) ?_|dsimp only));first|done|(with_reducible rfl)|simp (disch:=omega) only[w64]|(show False;done))
theorem Zft {g:List (List Int)} (hg:Grp g) {d:Int} (d0:0≤d) (d1:d≤4):ZN.f g d=some (cells g d):=by
 have n8:=hg.n8;have n0:=hg.n1
 unfold cells
 have hw:wrapI ((g.length:Int) - 1)=g.length - 1:=w64 (by omega) (by omega)
 obtain⟨n,rfl⟩:=Int.eq_ofNat_of_zero_le d0
 suffices H:∀n j:Nat,n+j≤4→ZN.l0 (n:Int) (((g.length:Int) - 1) ^ j) g=some (((g.length:Int) - 1) ^ (j+n))by
  have:=H n 0 (by omega)
  rw[ZN.f_eq]
  simpa using this
 intro n
 induction n with
 | zero=>intro j hj;rw[ZN.l0_eq,Nat.add_zero];((with_reducible repeat (first|refine Zj (by first|assumption|omega|rfl|exact B_pos (by omega)) ?_|refine Zi (by first|assumption|omega|decide|exact B_not (by omega)) ?_|refine Ze (by first|assumption) ?_|dsimp only));first|done|(with_reducible rfl)|simp (disch:=omega) only[w64]|(show False;done))
 | succ n ih =>
  intro j hj
  have b:=Zh3 (a:=(g.length:Int) - 1) (by omega) (by omega) (j+1) (by omega)
  have hp:wrapI (((g.length:Int) - 1) ^ j*((g.length:Int) - 1))=((g.length:Int) - 1) ^ (j+1):=by rw[show((g.length:Int) - 1) ^ j*((g.length:Int) - 1)=((g.length:Int) - 1) ^ (j+1)from(Int.pow_succ _ j).symm];exact w64 (by omega) (by omega)
  have h1:wrapI (((n+1:Nat):Int) - 1)=(n:Int):=by rw[w64 (by omega) (by omega)];omega
  have:=ih (j+1) (by omega)
  rw[show j+1+n=j+(n+1)by omega]at this
  rw[ZN.l0_eq,Zp.f_eq,Option.bind_some,hw,hp,h1]
  (with_reducible repeat (first|refine Zj (by first|assumption|omega|rfl|exact B_pos (by omega)) ?_|refine Zi (by first|assumption|omega|decide|exact B_not (by omega)) ?_|refine Ze (by first|assumption) ?_|dsimp only))
  exact this
def Co (g:List (List Int)) (m d:Int) (v:List Int):Prop:=(0≤d∧d≤3)∧(v.length:Int)=cells g d∧AllIn m v
theorem ZeK (d:Int):ZaY.f d=some (B (0≤d∧d≤3)):=by
 rw[ZaY.f_eq]
 by_cases h:d≥0
 ·
  rw[if_pos h,ZfO,Zb5 (show d≤3↔(0≤d∧d≤3)from⟨fun h' => ⟨h,h'⟩,fun h' => h'.2⟩)]
 ·
  rw[if_neg h,B_neg (fun h' => h h'.1)]
theorem Zci {g:List (List Int)} (hg:Grp g) (m:Int) (u:List Int) (d:Int) (v:List Int) (hv:v.length≤maxLen):Zaw.f g m u d v=some (B (Co g m d v)):=by
 rw[Zaw.f_eq]
 by_cases h1:0≤d∧d≤3
 rotate_left
 ·
  rw[B_neg fun h=>h1 h.1]
  ((with_reducible repeat (first|refine Zj (by first|assumption|omega|rfl|exact B_pos (by omega)) ?_|refine Zi (by first|assumption|omega|decide|exact B_not (by omega)) ?_|refine Ze (by first|assumption|exact ZeK _) ?_|dsimp only));first|done|(with_reducible rfl)|simp (disch:=omega) only[w64]|(show False;done))
 have hc:=Zky hg h1.1 (by omega)
 have ha:=areIn m v hv
 by_cases h2:(v.length:Int)=cells g d
 rotate_left
 ·
  rw[B_neg fun h=>h2 h.2.1]
  ((with_reducible repeat (first|refine Zj (by first|assumption|omega|rfl|exact B_pos (by omega)) ?_|refine Zi (by first|assumption|omega|decide|exact B_not (by omega)) ?_|refine Ze (by first|assumption|exact ZeK _) ?_|dsimp only));first|done|(with_reducible rfl)|simp (disch:=omega) only[w64]|(show False;done))
 (with_reducible repeat (first|refine Zj (by first|assumption|omega|rfl|exact B_pos (by omega)) ?_|refine Zi (by first|assumption|omega|decide|exact B_not (by omega)) ?_|refine Ze (by first|assumption|exact ZeK _) ?_|dsimp only))
 rw[Zb5 (show AllIn m v↔Co g m d v from⟨fun h=>⟨h1,h2,h⟩,fun h=>h.2.2⟩)]
 simp
theorem Is03 {g:List (List Int)} (hg:Grp g) {m:Int} {u:List Int} (hm:Mdl g m u) (d:Int) (v:List Int) (hv:v.length≤maxLen):Zbd.f g m u d v=some (B (Co g m d v)):=by
 have hml:=Zcj
 have m2:=hm.m2;have m12:=hm.m12
 rw[Zbd.f_eq]
 by_cases h1:0≤d∧d≤3
 rotate_left
 ·
  rw[B_neg fun h=>h1 h.1]
  ((with_reducible repeat (first|refine Zj (by first|assumption|omega|rfl|exact B_pos (by omega)) ?_|refine Zi (by first|assumption|omega|decide|exact B_not (by omega)) ?_|refine Ze (by first|assumption|exact In_ _ _ _) ?_|dsimp only));first|done|(with_reducible rfl)|simp (disch:=omega) only[w64]|(show False;done))
 have hc:=Zft hg h1.1 (by omega)
 by_cases h2:(v.length:Int)=cells g d
 rotate_left
 ·
  rw[B_neg fun h=>h2 h.2.1]
  ((with_reducible repeat (first|refine Zj (by first|assumption|omega|rfl|exact B_pos (by omega)) ?_|refine Zi (by first|assumption|omega|decide|exact B_not (by omega)) ?_|refine Ze (by first|assumption|exact In_ _ _ _) ?_|dsimp only));first|done|(with_reducible rfl)|simp (disch:=omega) only[w64]|(show False;done))
 (with_reducible repeat (first|refine Zj (by first|assumption|omega|rfl|exact B_pos (by omega)) ?_|refine Zi (by first|assumption|omega|decide|exact B_not (by omega)) ?_|refine Ze (by first|assumption|exact In_ _ _ _) ?_|dsimp only))
 rw[Zb5 (show Co g m d v↔AllIn m v from⟨fun h=>h.2.2,fun h=>⟨h1,h2,h⟩⟩)]
 have hw:wrapI (m - 1)=m - 1:=w64 (by omega) (by omega)
 refine scanT v.length (fun i=>Zbd.l0 i m u d v) (fun i=>0≤rd v i∧rd v i < m) (fun i i0 i1 _ => ?_) (fun _=>by(rw[Zbd.l0_eq]);((with_reducible repeat (first|refine Zj (by first|assumption|omega|rfl|exact B_pos (by omega)) ?_|refine Zi (by first|assumption|omega|decide|exact B_not (by omega)) ?_|refine Ze (by first|assumption) ?_|dsimp only));first|done|(with_reducible rfl)|simp (disch:=omega) only[w64]|(show False;done)))
 refine⟨fun h => ?_,fun h => ?_⟩ <;> (rw[Zbd.l0_eq,hw]) <;> ((with_reducible repeat (first|refine Zj (by first|assumption|omega|rfl|exact B_pos (by omega)) ?_|refine Zi (by first|assumption|omega|decide|exact B_not (by omega)) ?_|refine Ze (by first|assumption|exact In_ _ _ _) ?_|dsimp only));first|done|(with_reducible rfl)|simp (disch:=omega) only[w64]|(show False;done))
theorem co_codes (g:List (List Int)) (hl:g.length≤maxLen) (hr:∀r∈g,r.length≤maxLen) (m:Int) (u:List Int) (hu:u.length≤maxLen) (d:Int) (v:List Int) (hv:v.length≤maxLen) :
  (Grp g∧Mdl g m u∧Co g m d v∧Zo.f g m u [(d,v)]=some 0∧ZJ.f g m u [(d,v)]=some 0) ∨
  (¬ (Grp g∧Mdl g m u∧Co g m d v)∧Zo.f g m u [(d,v)]=some 1∧ZJ.f g m u [(d,v)]=some 1):=by
 have hA:=Zc0 g hl hr m u hu
 have hS:=Is_ g
 have w1:wrapI (0+1)=1:=w64 (by omega) (by omega)
 have stI:Zo.l0 [(d,v)] (([(d,v)]:List (Int×List Int)).length:Int) 1 g m u=some 0:=by rw[Zo.l0_eq];exact if_neg (by simp)
 have stS:ZJ.l0 [(d,v)] 1 g m u=some 0:=by rw[ZJ.l0_eq];exact if_neg (by simp)
 have r0:Ty.rd (.pr (.int .i64) (.sl 2 (.int .i64))) [(d,v)] 0=(d,v):=rfl
 rw[Zo.f_eq,ZJ.f_eq]
 by_cases h:GM g m u
 rotate_left
 ·
  refine .inr ⟨fun k=>h ⟨k.1,k.2.1⟩,?_,?_⟩
  ·
   ((with_reducible repeat (first|refine Zj (by first|assumption|omega|rfl|exact B_pos (by omega)) ?_|refine Zi (by first|assumption|omega|decide|exact B_not (by omega)) ?_|refine Ze (by first|assumption) ?_|dsimp only));first|done|(with_reducible rfl)|simp (disch:=omega) only[w64]|(show False;done))
  ·
   by_cases h1:Grp g
   ·
    have hM:=Is02 h1 m u hu
    rw[B_neg fun k=>h ⟨h1,k⟩]at hM
    ((with_reducible repeat (first|refine Zj (by first|assumption|omega|rfl|exact B_pos (by omega)) ?_|refine Zi (by first|assumption|omega|decide|exact B_not (by omega)) ?_|refine Ze (by first|assumption) ?_|dsimp only));first|done|(with_reducible rfl)|simp (disch:=omega) only[w64]|(show False;done))
   ·
    ((with_reducible repeat (first|refine Zj (by first|assumption|omega|rfl|exact B_pos (by omega)) ?_|refine Zi (by first|assumption|omega|decide|exact B_not (by omega)) ?_|refine Ze (by first|assumption) ?_|dsimp only));first|done|(with_reducible rfl)|simp (disch:=omega) only[w64]|(show False;done))
 have hM:=Is02 h.1 m u hu
 have hI:=Zci h.1 m u d v hv
 have hC:=Is03 h.1 h.2 d v hv
 rw[Zo.l0_eq,ZJ.l0_eq,r0,w1]
 have k1:(0:Int) < (([(d,v)]:List (Int×List Int)).length:Int):=by simp
 have hB:B (GM g m u)=true:=B_pos h
 have hGr:=h.1
 have hMd:=h.2
 by_cases h2:Co g m d v
 ·
  exact .inl ⟨h.1,h.2,h2,by(with_reducible repeat (first|refine Zj (by first|assumption|omega|rfl|exact B_pos (by omega)) ?_|refine Zi (by first|assumption|omega|decide|exact B_not (by omega)) ?_|refine Ze (by first|assumption) ?_|dsimp only));exact stI,by(with_reducible repeat (first|refine Zj (by first|assumption|omega|rfl|exact B_pos (by omega)) ?_|refine Zi (by first|assumption|omega|decide|exact B_not (by omega)) ?_|refine Ze (by first|assumption) ?_|dsimp only));exact stS⟩
 ·
  exact .inr ⟨fun k=>h2 k.2.2,by((with_reducible repeat (first|refine Zj (by first|assumption|omega|rfl|exact B_pos (by omega)) ?_|refine Zi (by first|assumption|omega|decide|exact B_not (by omega)) ?_|refine Ze (by first|assumption) ?_|dsimp only));first|done|(with_reducible rfl)|simp (disch:=omega) only[w64]|(show False;done)),by((with_reducible repeat (first|refine Zj (by first|assumption|omega|rfl|exact B_pos (by omega)) ?_|refine Zi (by first|assumption|omega|decide|exact B_not (by omega)) ?_|refine Ze (by first|assumption) ?_|dsimp only));first|done|(with_reducible rfl)|simp (disch:=omega) only[w64]|(show False;done))⟩
def idx (g:List (List Int)) (xs:List Int):Int:=xs.foldl (fun a x=>a*((g.length:Int) - 1)+x - 1) 0
theorem Zf3 (g:List (List Int)) (xs:List Int) (x:Int):idx g (xs++[x])=idx g xs*((g.length:Int) - 1)+x - 1:=by simp[idx]
theorem ZhV {g:List (List Int)} {xs:List Int} {i:Nat} (h:i < xs.length):idx g (xs.take (i+1))=idx g (xs.take i)*((g.length:Int) - 1)+rd xs (i:Int) - 1:=by
 rw[ZcR h,Zf3]
theorem ZhT {g:List (List Int)} (hg:Grp g) {xs:List Int} (hx:AllIn g.length xs):∀i:Nat,i≤xs.length→(∀j:Int,0≤j→j < i→¬ rd xs j=0)→0≤idx g (xs.take i)∧idx g (xs.take i)+1≤((g.length:Int) - 1) ^ i:=by
 have n8:=hg.n8;have n1:=hg.n1
 intro i
 induction i with
 | zero=>intro _ _;simp[idx]
 | succ i ih =>
  intro hi hz
  obtain⟨a0,a1⟩:=ih (by omega) (fun j h0 h1=>hz j h0 (by omega))
  obtain⟨x0,x1⟩:=hx i (by omega) (by omega)
  have x2:=hz i (by omega) (by omega)
  rw[ZhV (by omega),Int.pow_succ]
  have b1:0≤idx g (xs.take i)*((g.length:Int) - 1):=Int.mul_nonneg a0 (by omega)
  have b2:(idx g (xs.take i)+1)*((g.length:Int) - 1)≤((g.length:Int) - 1) ^ i*((g.length:Int) - 1):=Int.mul_le_mul_of_nonneg_right a1 (by omega)
  rw[Int.add_mul,Int.one_mul]at b2
  omega
def ZbG (xs:List Int):Prop:=∀j:Int,0≤j→j < xs.length→¬ rd xs j=0
noncomputable def At (g:List (List Int)) (v xs:List Int):Int:=ite_ (ZbG xs) (rd v (idx g xs)) 0
theorem ZhU {g:List (List Int)} (hg:Grp g) {xs:List Int} (hx:AllIn g.length xs) (hl:xs.length≤4) {n:Nat} (hn:n < xs.length) (hz:∀j:Int,0≤j→j < (n:Int)→¬ rd xs j=0) :
  wrapI (wrapI (wrapI (idx g (xs.take n)*wrapI ((g.length:Int) - 1))+rd xs n) - 1)=idx g (xs.take (n+1))∧wrapI ((n:Int)+1)=(n:Int)+1:=by
 have n8:=hg.n8;have n1:=hg.n1
 obtain⟨a0,a1⟩:=ZhT hg hx n (by omega) hz
 obtain⟨x0,x1⟩:=hx n (by omega) (by omega)
 have p:=Zh3 (a:=(g.length:Int) - 1) (by omega) (by omega) n (by omega)
 have b1:0≤idx g (xs.take n)*((g.length:Int) - 1):=Int.mul_nonneg a0 (by omega)
 have b2:idx g (xs.take n)*((g.length:Int) - 1)≤16807*7:=Int.mul_le_mul (by omega) (by omega) (by omega) (by omega)
 rw[w64 (x:=(g.length:Int) - 1) (by omega) (by omega),w64 (x:=idx g (xs.take n)*((g.length:Int) - 1)) (by omega) (by omega),w64 (x:=idx g (xs.take n)*((g.length:Int) - 1)+rd xs n) (by omega) (by omega),w64 (by omega) (by omega),w64 (by omega) (by omega),ZhV hn]
 exact⟨rfl,rfl⟩
theorem cell_ {g:List (List Int)} (hg:Grp g) {xs:List Int} (hx:AllIn g.length xs) (hl:xs.length≤4) :
  Zbg.f g xs=some (ite_ (ZbG xs) (idx g xs) (-1)):=by
 rw[Zbg.f_eq]
 have:=scan xs.length (fun i=>Zbg.l0 (idx g (xs.take i.toNat)) xs (xs.length:Int) i g) (fun j=>¬ rd xs j=0) (some (-1)) (fun i i0 i1 hz=>by
  obtain⟨n,rfl⟩:=Int.eq_ofNat_of_zero_le i0
  obtain⟨e1,e2⟩:=ZhU hg hx hl (n:=n) (by omega) hz
  refine⟨fun h => ?_,fun h => ?_⟩
  ·
   rw[Zbg.l0_eq,ZX.f_eq,Option.bind_some,Int.toNat_natCast,e1,e2,show((n:Int)+1).toNat=n+1 by omega]
   ((with_reducible repeat (first|refine Zj (by first|assumption|omega|rfl|exact B_pos (by omega)) ?_|refine Zi (by first|assumption|omega|decide|exact B_not (by omega)) ?_|refine Ze (by first|assumption) ?_|dsimp only));first|done|(with_reducible rfl)|simp (disch:=omega) only[w64]|(show False;done))
  ·
   (rw[Zbg.l0_eq])
   ((with_reducible repeat (first|refine Zj (by first|assumption|omega|rfl|exact B_pos (by omega)) ?_|refine Zi (by first|assumption|omega|decide|exact B_not (by omega)) ?_|refine Ze (by first|assumption) ?_|dsimp only));first|done|(with_reducible rfl)|simp (disch:=omega) only[w64]|(show False;done)))
 simp only[Int.toNat_zero,List.take_zero,Int.toNat_natCast,List.take_length]at this
 rcases this with ⟨h1,h2⟩|⟨j,j0,j1,_,h1,_,h2⟩
 ·
  have h1:ZbG xs:=h1
  rw[ZbK h1,←show Zbg.l0 (idx g []) xs (xs.length:Int) 0 g=Zbg.l0 0 xs (xs.length:Int) 0 g from rfl,h2]
  (rw[Zbg.l0_eq])
  ((with_reducible repeat (first|refine Zj (by first|assumption|omega|rfl|exact B_pos (by omega)) ?_|refine Zi (by first|assumption|omega|decide|exact B_not (by omega)) ?_|refine Ze (by first|assumption) ?_|dsimp only));first|done|(with_reducible rfl)|simp (disch:=omega) only[w64]|(show False;done))
 ·
  rw[ZbN fun q=>h1 (q j j0 j1)]
  exact h2
theorem ZeZ {g:List (List Int)} (hg:Grp g) {m d:Int} {v:List Int} (hc:Co g m d v) {xs:List Int} (hx:AllIn g.length xs) (hl:(xs.length:Int)=d) (h:ZbG xs):0≤idx g xs∧idx g xs < v.length:=by
 obtain⟨⟨d0,d1⟩,hv,ha⟩:=hc
 obtain⟨a0,a1⟩:=ZhT hg hx xs.length (by omega) h
 rw[List.take_length]at a0 a1
 have e:cells g d=((g.length:Int) - 1) ^ xs.length:=by unfold cells;rw[show d.toNat=xs.length by omega]
 omega
theorem at_ {g:List (List Int)} (hg:Grp g) {m d:Int} {v:List Int} (hc:Co g m d v) {xs:List Int} (hx:AllIn g.length xs) (hl:(xs.length:Int)=d) :
  ZY.f d v g xs=some (At g v xs):=by
 have hd:=hc.1
 have h1:=cell_ hg hx (by omega)
 rw[ZY.f_eq]
 unfold At
 by_cases h:ZbG xs
 ·
  obtain⟨a0,a1⟩:=ZeZ hg hc hx hl h
  rw[ZbK h]at h1 ⊢
  ((with_reducible repeat (first|refine Zj (by first|assumption|omega|rfl|exact B_pos (by omega)) ?_|refine Zi (by first|assumption|omega|decide|exact B_not (by omega)) ?_|refine Ze (by first|assumption) ?_|dsimp only));first|done|(with_reducible rfl)|simp (disch:=omega) only[w64]|(show False;done))
 ·
  rw[ZbN h]at h1 ⊢
  ((with_reducible repeat (first|refine Zj (by first|assumption|omega|rfl|exact B_pos (by omega)) ?_|refine Zi (by first|assumption|omega|decide|exact B_not (by omega)) ?_|refine Ze (by first|assumption) ?_|dsimp only));first|done|(with_reducible rfl)|simp (disch:=omega) only[w64]|(show False;done))
theorem At_ {g:List (List Int)} (hg:Grp g) {m d:Int} {u v:List Int} (hc:Co g m d v) {xs:List Int} (hx:AllIn g.length xs) (hl:(xs.length:Int)=d) :
  Zat.f g d v xs=some (At g v xs):=by
 have hd:=hc.1
 rw[Zat.f_eq]
 have:=scan xs.length (fun i=>Zat.l0 xs (idx g (xs.take i.toNat)) i g d v) (fun j=>¬ rd xs j=0) (some 0) (fun i i0 i1 hz=>by
  obtain⟨n,rfl⟩:=Int.eq_ofNat_of_zero_le i0
  obtain⟨e1,e2⟩:=ZhU hg hx (by omega) (n:=n) (by omega) hz
  refine⟨fun h => ?_,fun h => ?_⟩
  ·
   rw[Zat.l0_eq,Zp.f_eq,Option.bind_some,Int.toNat_natCast,e1,e2,show((n:Int)+1).toNat=n+1 by omega]
   ((with_reducible repeat (first|refine Zj (by first|assumption|omega|rfl|exact B_pos (by omega)) ?_|refine Zi (by first|assumption|omega|decide|exact B_not (by omega)) ?_|refine Ze (by first|assumption) ?_|dsimp only));first|done|(with_reducible rfl)|simp (disch:=omega) only[w64]|(show False;done))
  ·
   (rw[Zat.l0_eq])
   ((with_reducible repeat (first|refine Zj (by first|assumption|omega|rfl|exact B_pos (by omega)) ?_|refine Zi (by first|assumption|omega|decide|exact B_not (by omega)) ?_|refine Ze (by first|assumption) ?_|dsimp only));first|done|(with_reducible rfl)|simp (disch:=omega) only[w64]|(show False;done)))
 simp only[Int.toNat_zero,List.take_zero,Int.toNat_natCast,List.take_length]at this
 unfold At
 rcases this with ⟨h1,h2⟩|⟨j,j0,j1,_,h1,_,h2⟩
 ·
  have h1:ZbG xs:=h1
  obtain⟨a0,a1⟩:=ZeZ hg hc hx hl h1
  rw[ZbK h1,←show Zat.l0 xs (idx g []) 0 g d v=Zat.l0 xs 0 0 g d v from rfl,h2]
  (rw[Zat.l0_eq])
  ((with_reducible repeat (first|refine Zj (by first|assumption|omega|rfl|exact B_pos (by omega)) ?_|refine Zi (by first|assumption|omega|decide|exact B_not (by omega)) ?_|refine Ze (by first|assumption) ?_|dsimp only));first|done|(with_reducible rfl)|simp (disch:=omega) only[w64]|(show False;done))
 ·
  rw[ZbN fun q=>h1 (q j j0 j1)]
  exact h2
theorem At_bd {g:List (List Int)} (hg:Grp g) {m d:Int} {v:List Int} (m0:0 < m) (hc:Co g m d v) {xs:List Int} (hx:AllIn g.length xs) (hl:(xs.length:Int)=d):0≤At g v xs∧At g v xs < m:=by
 unfold At
 by_cases h:ZbG xs
 ·
  obtain⟨a0,a1⟩:=ZeZ hg hc hx hl h
  rw[ZbK h]
  exact hc.2.2 _ a0 a1
 ·
  rw[ZbN h];omega
end Go.Proofs.YtoljodiflhbohaaGreatDoor.V
namespace Go.Proofs.YtoljodiflhbohaaGreatDoor.V
open Go.RowKit Go.Proofs.YtoljodiflhbohaaGreatDoor.D Go.Proofs.YtoljodiflhbohaaGreatDoor.P
theorem Zi9 {g:List (List Int)} (hg:Grp g) {a:Int} (a0:0≤a) (a1:a < g.length) :
  ∃b:Int,0≤b∧b < g.length∧T g a b=0∧ZS.f g a=some b∧ZU.f g a=some b:=by
 have hm:=Zcj
 have n8:=hg.n8
 have lr:=hg.row a a0 a1
 have hlr:(row g a).length≤maxLen:=Zbu (by omega)
 rcases index_ (row g a) 0 hlr with ⟨h,_⟩|⟨b,b0,b1,hf,hb,e⟩
 ·
  obtain⟨b,b0,b1,hb⟩:=hg.inv a a0 a1
  exact absurd hb (h b b0 (by omega))
 refine⟨b,b0,by omega,hb,?_,?_⟩
 ·
  rw[ZS.f_eq]
  ((with_reducible repeat (first|refine Zj (by first|assumption|omega|rfl|exact B_pos (by omega)) ?_|refine Zi (by first|assumption|omega|decide|exact B_not (by omega)) ?_|refine Ze (by first|assumption) ?_|dsimp only));first|done|(with_reducible rfl)|simp (disch:=omega) only[w64]|(show False;done))
 ·
  rw[ZU.f_eq]
  obtain⟨n,rfl⟩:=Int.eq_ofNat_of_zero_le b0
  have:=up n (fun i=>ZU.l0 a (i:Int) g) (fun i hi=>by
   have h2:T g a i≠0:=hf i (by omega) (by omega)
   have hw:wrapI ((i:Int)+1)=((i+1:Nat):Int):=by rw[w64 (by omega) (by omega)];omega
   (rw[ZU.l0_eq,Zp.f_eq,Option.bind_some,hw])
   ((with_reducible repeat (first|refine Zj (by first|assumption|omega|rfl|exact B_pos (by omega)) ?_|refine Zi (by first|assumption|omega|decide|exact B_not (by omega)) ?_|refine Ze (by first|assumption) ?_|dsimp only));first|done|(with_reducible rfl)|simp (disch:=omega) only[w64]|(show False;done)))
  simp only[Int.natCast_zero]at this
  have hb:T g a n=0:=hb
  rw[this,ZU.l0_eq,Zp.f_eq,Option.bind_some]
  ((with_reducible repeat (first|refine Zj (by first|assumption|omega|rfl|exact B_pos (by omega)) ?_|refine Zi (by first|assumption|omega|decide|exact B_not (by omega)) ?_|refine Ze (by first|assumption) ?_|dsimp only));first|done|(with_reducible rfl)|simp (disch:=omega) only[w64]|(show False;done))
theorem ZkT {g:List (List Int)} (hg:Grp g) {x:Int} (x0:0≤x) (x1:x < g.length) :
  ∃C:Int→Int,∀y:Int,0≤y→y < g.length→(0≤C y∧C y < g.length)∧ZT.f g x y=some (C y)∧Zas.f g y x=some (C y):=by
 obtain⟨b,b0,b1,hb,eI,eS⟩:=Zi9 hg x0 x1
 refine⟨fun y=>T g (T g x y) b,fun y y0 y1 => ?_⟩
 obtain⟨c0,c1⟩:=hg.ent x y x0 x1 y0 y1
 obtain⟨d0,d1⟩:=hg.ent _ b c0 c1 b0 b1
 have lx:=hg.row x x0 x1
 have lc:=hg.row _ c0 c1
 refine⟨⟨d0,d1⟩,?_,?_⟩
 ·
  rw[ZT.f_eq]
  have ht:=times hg [x,y,b] (ZcC x0 x1 y0 y1 b0 b1) (Zbu (by simp))
  have e:[x,y,b].foldl (T g) 0=T g (T g x y) b:=by
   show T g (T g (T g 0 x) y) b=_
   rw[hg.one x x0 x1]
  rw[e]at ht
  ((with_reducible repeat (first|refine Zj (by first|assumption|omega|rfl|exact B_pos (by omega)) ?_|refine Zi (by first|assumption|omega|decide|exact B_not (by omega)) ?_|refine Ze (by first|assumption) ?_|dsimp only));first|done|(with_reducible rfl)|simp (disch:=omega) only[w64]|(show False;done))
 ·
  rw[Zas.f_eq]
  ((with_reducible repeat (first|refine Zj (by first|assumption|omega|rfl|exact B_pos (by omega)) ?_|refine Zi (by first|assumption|omega|decide|exact B_not (by omega)) ?_|refine Ze (by first|assumption) ?_|dsimp only));first|done|(with_reducible rfl)|simp (disch:=omega) only[w64]|(show False;done))
def lst (b:Int):Nat→Int→List Int
 | 0,_=>[]
 | n+1,i=>lst b n (i / b)++[i%b+1]
theorem ZbE (b:Int):∀n i,(lst b n i).length=n:=by
 intro n
 induction n with
 | zero=>intro i;rfl
 | succ n ih=>intro i;simp[lst,ih]
theorem Zlw {b:Int} (hb:0 < b):∀n i,∀x∈lst b n i,1≤x∧x < b+1:=by
 intro n
 induction n with
 | zero=>intro i x hx;simp[lst]at hx
 | succ n ih =>
  intro i x hx
  have m0:=Int.emod_nonneg i (show b≠0 by omega)
  have m1:=Int.emod_lt_of_pos i hb
  rcases List.mem_append.1 hx with h|h
  ·
   exact ih _ x h
  ·
   rw[List.mem_singleton]at h;omega
theorem Zh6 (n:Nat) (t:List Int) (x:Int):(List.replicate (n+1) 0++t).set n x=List.replicate n 0++(x :: t):=by
 rw[List.replicate_succ', List.append_assoc,List.set_append,if_neg (by simp)]
 simp
theorem Zlv {g:List (List Int)} (hg:Grp g) (n:Nat) (h2:n=0∨2≤g.length) (hn:n≤4) {i:Int} (i0:0≤i) (i1:i≤16807) :
  ZaV.f g (n:Int) i=some (lst ((g.length:Int) - 1) n i)∧Zai.f g (n:Int) i=some (lst ((g.length:Int) - 1) n i):=by
 have n8:=hg.n8;have n1:=hg.n1
 obtain⟨b,hb⟩:∃b:Int,b=(g.length:Int) - 1:=⟨_,rfl⟩
 have hw0:wrapI ((g.length:Int) - 1)=b:=by rw[hb];exact w64 (by omega) (by omega)
 rw[←hb]
 have b1:n=0∨1≤b:=by omega
 have b7:b≤7:=by omega
 have fact:∀(n:Nat) (i:Int),n≤4→1≤b→0≤i→i≤16807→wrapI (Int.tdiv i b)=i / b∧wrapI (1+Int.tmod i b)=i%b+1∧wrapI (Int.tmod i b+1)=i%b+1∧wrapI ((n:Int) - 1)=(n:Int) - 1∧0≤i / b∧i / b≤16807:=by
  intro n i hn b1 i0 i1
  have m0:=Int.emod_nonneg i (show b≠0 by omega)
  have m1:=Int.emod_lt_of_pos i (show 0 < b by omega)
  have d0:0≤i / b:=Int.ediv_nonneg i0 (by omega)
  have d1:i / b≤i:=Int.ediv_le_self _ i0
  rw[Zgo i0,Zcl i0]
  exact⟨w64 (by omega) (by omega),by rw[w64 (by omega) (by omega)];omega,w64 (by omega) (by omega),w64 (by omega) (by omega),d0,by omega⟩
 have hwn:wrapI ((n:Int) - 1)=(n:Int) - 1:=w64 (by omega) (by omega)
 constructor
 ·
  rw[ZaV.f_eq,ZX.f_eq,Option.bind_some,hw0,hwn,Int.toNat_natCast]
  (with_reducible repeat (first|refine Zj (by first|assumption|omega|rfl|exact B_pos (by omega)) ?_|refine Zi (by first|assumption|omega|decide|exact B_not (by omega)) ?_|refine Ze (by first|assumption) ?_|dsimp only))
  suffices H:∀(n:Nat) (i:Int) (t:List Int),n≤4→(n=0∨1≤b)→0≤i→i≤16807→ZaV.l0 i b ((n:Int) - 1) (List.replicate n 0++t)=some (lst b n i++t)by
   simpa using H n i [] hn b1 i0 i1
  intro n
  induction n with
  | zero=>intro i t _ _ _ _;rw[ZaV.l0_eq];(with_reducible repeat (first|refine Zj (by first|assumption|omega|rfl|exact B_pos (by omega)) ?_|refine Zi (by first|assumption|omega|decide|exact B_not (by omega)) ?_|refine Ze (by first|assumption) ?_|dsimp only));rfl
  | succ n ih =>
   intro i t hn b1 i0 i1
   obtain⟨f1,f2,f3,f5,f6,f7⟩:=fact n i (by omega) (by omega) i0 i1
   have h:=ih (i / b) ((i%b+1) :: t) (by omega) (by omega) f6 f7
   have e:((n+1:Nat):Int) - 1=(n:Int):=by omega
   have l1:(List.replicate (n+1) (0:Int)++t).length=n+1+t.length:=by rw[List.length_append,List.length_replicate]
   rw[e,ZaV.l0_eq,f1,f2,f5,Int.toNat_natCast,Zh6]
   (with_reducible repeat (first|refine Zj (by first|assumption|omega|rfl|exact B_pos (by omega)) ?_|refine Zi (by first|assumption|omega|decide|exact B_not (by omega)) ?_|refine Ze (by first|assumption) ?_|dsimp only))
   rw[h,lst,List.append_assoc,List.singleton_append]
 ·
  rw[Zai.f_eq,Zp.f_eq,Option.bind_some,hw0,hwn,Int.toNat_natCast]
  (with_reducible repeat (first|refine Zj (by first|assumption|omega|rfl|exact B_pos (by omega)) ?_|refine Zi (by first|assumption|omega|decide|exact B_not (by omega)) ?_|refine Ze (by first|assumption) ?_|dsimp only))
  suffices H:∀(n:Nat) (i:Int) (t:List Int),n≤4→(n=0∨1≤b)→0≤i→i≤16807→Zai.l0 i b ((n:Int) - 1) (List.replicate n 0++t)=some (lst b n i++t)by
   simpa using H n i [] hn b1 i0 i1
  intro n
  induction n with
  | zero=>intro i t _ _ _ _;rw[Zai.l0_eq];(with_reducible repeat (first|refine Zj (by first|assumption|omega|rfl|exact B_pos (by omega)) ?_|refine Zi (by first|assumption|omega|decide|exact B_not (by omega)) ?_|refine Ze (by first|assumption) ?_|dsimp only));rfl
  | succ n ih =>
   intro i t hn b1 i0 i1
   obtain⟨f1,f2,f3,f5,f6,f7⟩:=fact n i (by omega) (by omega) i0 i1
   have h:=ih (i / b) ((i%b+1) :: t) (by omega) (by omega) f6 f7
   have e:((n+1:Nat):Int) - 1=(n:Int):=by omega
   have l1:(List.replicate (n+1) (0:Int)++t).length=n+1+t.length:=by rw[List.length_append,List.length_replicate]
   rw[e,Zai.l0_eq,f1,f3,f5,Int.toNat_natCast,Zh6]
   (with_reducible repeat (first|refine Zj (by first|assumption|omega|rfl|exact B_pos (by omega)) ?_|refine Zi (by first|assumption|omega|decide|exact B_not (by omega)) ?_|refine Ze (by first|assumption) ?_|dsimp only))
   rw[h,lst,List.append_assoc,List.singleton_append]
theorem cells_two {g:List (List Int)} (hg:Grp g) {n:Nat} (hc:0 < cells g n):n=0∨2≤g.length:=by
 have n1:=hg.n1
 by_cases h:n=0
 ·
  exact .inl h
 by_cases h2:2≤g.length
 ·
  exact .inr h2
 ·
  have:(g.length:Int) - 1=0:=by omega
  have e:cells g (n:Int)=0:=by unfold cells;rw[this,Int.toNat_natCast];exact Int.zero_pow h
  omega
theorem Zdl {g:List (List Int)} (hg:Grp g) {n i:Nat} (hn:n≤4) (hi:(i:Int) < cells g n):ZaV.f g (n:Int) i=some (lst ((g.length:Int) - 1) n i)∧Zai.f g (n:Int) i=some (lst ((g.length:Int) - 1) n i):=by
 have hb:=ZbA hg (d:=(n:Int)) (by omega)
 exact Zlv hg n (cells_two hg (by omega)) hn (by omega) (by omega)
theorem Zb7 {g:List (List Int)} (hg:Grp g) {n i:Nat} (hi:(i:Int) < cells g n):AllIn g.length (lst ((g.length:Int) - 1) n i)∧ZbG (lst ((g.length:Int) - 1) n i):=by
 have n1:=hg.n1
 have H:∀x∈lst ((g.length:Int) - 1) n i,1≤x∧x < g.length:=by
  rcases cells_two hg (show 0 < cells g n by omega)with h|g2
  ·
   subst h;intro x hx;simp[lst]at hx
  ·
   intro x hx
   have:=Zlw (b:=(g.length:Int) - 1) (by omega) n i x hx
   omega
 exact⟨ZbU fun x hx=>by have:=H x hx;omega,fun j j0 j1 h=>by have:=H _ (ZcK j0 j1);omega⟩
theorem mapped {F:Int→Option Int} {G:Int→Int} (xs:List Int) (hl:xs.length≤1048576) (hF:∀x∈xs,F x=some (G x)):ZaP.f xs F=some (xs.map G):=by
 rw[ZaP.f_eq]
 have:=up xs.length (fun j=>ZaP.l0 F xs (xs.length:Int) (j:Int) ((xs.take j).map G)) (fun j h=>by
  have hw:wrapI ((j:Int)+1)=((j+1:Nat):Int):=by rw[w64 (by omega) (by omega)];omega
  have l1:((xs.take j).map G).length=j:=by rw[List.length_map,List.length_take];omega
  have l2:∀x:Int,([x]:List Int).length=1:=fun _=>rfl
  have hf:=hF _ (ZcK (show(0:Int)≤j by omega) (show(j:Int) < xs.length by omega))
  rw[ZcR h,List.map_append,List.map_singleton,ZaP.l0_eq,hw,hf,Option.bind_some,l1,l2]
  ((with_reducible repeat (first|refine Zj (by first|assumption|omega|rfl|exact B_pos (by omega)) ?_|refine Zi (by first|assumption|omega|decide|exact B_not (by omega)) ?_|refine Ze (by first|assumption) ?_|dsimp only));first|done|(with_reducible rfl)|simp (disch:=omega) only[w64]|(show False;done)))
 simp only[Int.natCast_zero,List.take_zero,List.map_nil,List.take_length]at this
 rw[this,ZaP.l0_eq]
 ((with_reducible repeat (first|refine Zj (by first|assumption|omega|rfl|exact B_pos (by omega)) ?_|refine Zi (by first|assumption|omega|decide|exact B_not (by omega)) ?_|refine Ze (by first|assumption) ?_|dsimp only));first|done|(with_reducible rfl)|simp (disch:=omega) only[w64]|(show False;done))
theorem Zic (G:Nat→Int) (n i:Nat) (h:i < n):((List.range i).map G++List.replicate (n - i) 0).set i (G i)=(List.range (i+1)).map G++List.replicate (n - (i+1)) 0:=by
 rw[List.set_append,if_neg (by simp),List.length_map,List.length_range,Nat.sub_self,show n - i=(n - (i+1))+1 by omega,List.replicate_succ,List.set_cons_zero,List.range_succ,List.map_append]
 simp
theorem ZiQ (G:Nat→Int) (n i:Nat) (h:i≤n):((List.range i).map G++List.replicate (n - i) 0).length=n:=by rw[List.length_append,List.length_map,List.length_range,List.length_replicate];omega
theorem Zjk {a m:Int} (m0:0 < m) (m1:m≤1000000):Int.tmod (wrapI (Int.tmod a m+m)) m=a%m:=by
 have t0:=Int.tmod_lt_of_pos a m0
 have t1 : -m < Int.tmod a m:=Int.lt_tmod_of_pos a m0
 have hq:=Int.mul_tdiv_add_tmod a m
 have h5:(m*a.tdiv m+a.tmod m)%m=a.tmod m%m:=by rw[Int.add_comm,Int.add_mul_emod_self_left]
 rw[hq]at h5
 rw[w64 (by omega) (by omega),Int.tmod_eq_emod_of_nonneg (show 0≤Int.tmod a m+m by omega),Int.add_emod_right,←h5]
theorem zero_ {g:List (List Int)} (hg:Grp g) {n:Nat} (hn:n≤4):Zbq.f g (n:Int)=some ((n:Int),List.replicate (cells g n).toNat 0):=by
 have hb:=ZbA hg (d:=(n:Int)) (by omega)
 have hc:=Zky hg (d:=(n:Int)) (by omega) (by omega)
 rw[Zbq.f_eq]
 ((with_reducible repeat (first|refine Zj (by first|assumption|omega|rfl|exact B_pos (by omega)) ?_|refine Zi (by first|assumption|omega|decide|exact B_not (by omega)) ?_|refine Ze (by first|assumption) ?_|dsimp only));first|done|(with_reducible rfl)|simp (disch:=omega) only[w64]|(show False;done))
theorem told {g:List (List Int)} (hg:Grp g) {m:Int} (m2:2≤m) (m12:m≤12) {n:Nat} (hn:n≤4) {F:List Int→Option Int} {G:Nat→Int} (hF:∀i:Nat,(i:Int) < cells g n→F (lst ((g.length:Int) - 1) n i)=some (G i)) :
  Za7.f g m (n:Int) F=some ((n:Int),(List.range (cells g n).toNat).map fun i=>G i%m):=by
 have hb:=ZbA hg (d:=(n:Int)) (by omega)
 have hz:=zero_ hg hn
 obtain⟨N,hN⟩:∃N,N=(cells g n).toNat:=⟨_,rfl⟩
 rw[Za7.f_eq,hz,Option.bind_some,←hN]
 have:=up N (fun j=>Za7.l0 m (n:Int) F (N:Int) (j:Int) g 0 (n:Int) ((List.range j).map (fun i=>G i%m)++List.replicate (N - j) 0)) (fun j h=>by
  have hw:wrapI ((j:Int)+1)=((j+1:Nat):Int):=by rw[w64 (by omega) (by omega)];omega
  have f:=hF j (by omega)
  have hl:=(Zdl hg hn (i:=j) (by omega)).1
  have l1:=ZiQ (fun i=>G i%m) N j (by omega)
  have e:=Zjk (a:=G j) (m:=m) (by omega) (by omega)
  rw[←Zic (fun i=>G i%m) N j h,Za7.l0_eq,hw,hl,Option.bind_some,f,Option.bind_some,e,Int.toNat_natCast]
  ((with_reducible repeat (first|refine Zj (by first|assumption|omega|rfl|exact B_pos (by omega)) ?_|refine Zi (by first|assumption|omega|decide|exact B_not (by omega)) ?_|refine Ze (by first|assumption) ?_|dsimp only));first|done|(with_reducible rfl)|simp (disch:=omega) only[w64]|(show False;done)))
 simp only[Int.natCast_zero,List.range_zero,List.map_nil,List.nil_append,Nat.sub_zero,Nat.sub_self,List.replicate_zero,List.append_nil]at this
 simp only[List.length_replicate]
 rw[this,Za7.l0_eq]
 ((with_reducible repeat (first|refine Zj (by first|assumption|omega|rfl|exact B_pos (by omega)) ?_|refine Zi (by first|assumption|omega|decide|exact B_not (by omega)) ?_|refine Ze (by first|assumption) ?_|dsimp only));first|done|(with_reducible rfl)|simp (disch:=omega) only[w64]|(show False;done))
theorem ZjP {g:List (List Int)} (hg:Grp g) {m:Int} (m2:2≤m) {n:Nat} (hn:n≤3) (G:Nat→Int):Co g m n ((List.range (cells g n).toNat).map fun i=>G i%m):=by
 have hb:=ZbA hg (d:=(n:Int)) (by omega)
 refine⟨⟨by omega,by omega⟩,by rw[List.length_map,List.length_range];omega,ZbU fun x hx => ?_⟩
 obtain⟨i,_,rfl⟩:=List.mem_map.1 hx
 exact⟨Int.emod_nonneg _ (by omega),Int.emod_lt_of_pos _ (by omega)⟩
end Go.Proofs.YtoljodiflhbohaaGreatDoor.V
namespace Go.Proofs.YtoljodiflhbohaaGreatDoor.V
open Go.RowKit Go.Proofs.YtoljodiflhbohaaGreatDoor.D Go.Proofs.YtoljodiflhbohaaGreatDoor.P
def join2 (g:List (List Int)) (xs:List Int) (j:Nat):List Int:=(xs.take j++[T g (rd xs j) (rd xs (j+1:Nat))])++xs.drop (j+2)
noncomputable def bsum (g:List (List Int)) (u v xs:List Int):Nat→Int×Int
 | 0=>(rd u (rd xs 0)*At g v (xs.drop 1),-1)
 | j+1=>((bsum g u v xs j).1+(bsum g u v xs j).2*At g v (join2 g xs j),0 - (bsum g u v xs j).2)
noncomputable def Bd (g:List (List Int)) (u v xs:List Int) (d:Nat):Int:=(bsum g u v xs d).1+(bsum g u v xs d).2*At g v (xs.take d)
theorem ZeL {g:List (List Int)} (hg:Grp g) {xs:List Int} (hx:AllIn g.length xs) {j:Nat} (hj:j+1 < xs.length):AllIn g.length (join2 g xs j)∧(join2 g xs j).length+1=xs.length:=by
 obtain⟨a0,a1⟩:=hx j (by omega) (by omega)
 obtain⟨b0,b1⟩:=hx (j+1:Nat) (by omega) (by omega)
 obtain⟨t0,t1⟩:=hg.ent _ _ a0 a1 b0 b1
 refine⟨AllIn.append (AllIn.append (hx.take j) (ZbR t0 t1)) (hx.drop _),?_⟩
 simp only[join2,List.length_append,List.length_take,List.length_drop,List.length_singleton]
 omega
theorem ZkS {g:List (List Int)} (hg:Grp g) {m:Int} {u v xs:List Int} {d:Nat} (hm:Mdl g m u) (hc:Co g m d v) (hx:AllIn g.length xs) (hl:xs.length=d+1) :
  ∀j,j≤d→(-1000000 - 12*(j:Int)≤(bsum g u v xs j).1∧(bsum g u v xs j).1≤1000000+12*(j:Int))∧((bsum g u v xs j).2=1∨(bsum g u v xs j).2 = -1):=by
 have m2:=hm.m2;have m12:=hm.m12
 obtain⟨x0,x1⟩:=hx 0 (by omega) (by omega)
 intro j
 induction j with
 | zero =>
  intro _
  have ha:=At_bd hg (by omega) hc (hx.drop 1) (by rw[List.length_drop,hl];simp)
  obtain⟨c0,c1⟩:=ZdC hm x0 x1 ha.1 ha.2
  rw[show bsum g u v xs 0=(rd u (rd xs 0)*At g v (xs.drop 1),-1)from rfl]
  exact⟨⟨by dsimp only;omega,by dsimp only;omega⟩,.inr rfl⟩
 | succ j ih =>
  intro hj
  obtain⟨⟨h1,h2⟩,h3⟩:=ih (by omega)
  obtain⟨k1,k2⟩:=ZeL hg hx (j:=j) (by omega)
  have ha:=At_bd hg (by omega) hc k1 (by omega)
  simp only[bsum]
  rcases h3 with h3|h3 <;> rw[h3] <;> refine⟨⟨by omega,by omega⟩,?_⟩
  ·
   exact .inr rfl
  ·
   exact .inl rfl
theorem ZhH {g:List (List Int)} (hg:Grp g) {m:Int} {u v xs ys:List Int} {d:Nat} (hm:Mdl g m u) (hc:Co g m d v) (hx:AllIn g.length xs) (hl:xs.length=d+1) {j:Nat} (hj:j≤d) (hy:AllIn g.length ys) (hyl:ys.length=d) :
  wrapI ((bsum g u v xs j).1+wrapI ((bsum g u v xs j).2*At g v ys))=(bsum g u v xs j).1+(bsum g u v xs j).2*At g v ys∧wrapI (0 - (bsum g u v xs j).2)=0 - (bsum g u v xs j).2 ∧ -2000000≤(bsum g u v xs j).1+(bsum g u v xs j).2*At g v ys∧(bsum g u v xs j).1+(bsum g u v xs j).2*At g v ys≤2000000:=by
 have m2:=hm.m2;have m12:=hm.m12;have d3:=hc.1.2
 obtain⟨⟨s1,s2⟩,s3⟩:=ZkS hg hm hc hx hl j hj
 have hb:=At_bd hg (by omega) hc hy (by omega)
 have p1 : -100≤(bsum g u v xs j).2*At g v ys∧(bsum g u v xs j).2*At g v ys≤100:=by rcases s3 with s3|s3 <;> rw[s3] <;> omega
 rw[w64 (x:=(bsum g u v xs j).2*At g v ys) (by omega) (by omega)]
 exact⟨w64 (by omega) (by omega),w64 (by omega) (by omega),by omega,by omega⟩
theorem ZkD {g:List (List Int)} (hg:Grp g) {m:Int} {u v xs:List Int} {d:Nat} (hm:Mdl g m u) (hc:Co g m d v) (hx:AllIn g.length xs) (hl:xs.length=d+1) :
  wrapI (rd u (rd xs 0)*At g v (xs.drop 1))=rd u (rd xs 0)*At g v (xs.drop 1):=by
 have m2:=hm.m2;have m12:=hm.m12
 obtain⟨x0,x1⟩:=hx 0 (by omega) (by omega)
 have ha:=At_bd hg (by omega) hc (hx.drop 1) (by rw[List.length_drop,hl];simp)
 obtain⟨c0,c1⟩:=ZdC hm x0 x1 ha.1 ha.2
 exact w64 (by omega) (by omega)
theorem Own_ (xs:List Int) (hl:xs.length≤1048576):Zah.f xs=some xs:=by
 rw[Zah.f_eq,List.nil_append,show([]:List Int).length=0 from rfl]
 ((with_reducible repeat (first|refine Zj (by first|assumption|omega|rfl|exact B_pos (by omega)) ?_|refine Zi (by first|assumption|omega|decide|exact B_not (by omega)) ?_|refine Ze (by first|assumption) ?_|dsimp only));first|done|(with_reducible rfl)|simp (disch:=omega) only[w64]|(show False;done))
theorem w2n {j:Nat} (h:j < 4611686018427387904):wrapI ((j:Int)+2)=((j+2:Nat):Int):=by rw[w64 (by omega) (by omega)];omega
theorem Zib {g:List (List Int)} (hg:Grp g) {m:Int} {u v xs:List Int} {d:Nat} (hm:Mdl g m u) (hc:Co g m d v) (hx:AllIn g.length xs) (hl:xs.length=d+1) :
  Z9.f g m u d v xs=some (Bd g u v xs d):=by
 have hlu:=hm.len;have n8:=hg.n8;have d3:=hc.1.2
 obtain⟨x0,x1⟩:=hx 0 (by omega) (by omega)
 have h0:=at_ hg hc (hx.drop 1) (by rw[List.length_drop,hl];simp)
 have hat:=at_ hg hc (hx.take d) (by rw[List.length_take,hl];omega)
 have loop:=up d (fun i=>Z9.l0 xs (d:Int) (bsum g u v xs i).1 (bsum g u v xs i).2 (d:Int) (i:Int) g d v) (fun j hj=>by
  obtain⟨a0,a1⟩:=hx j (by omega) (by omega)
  obtain⟨b0,b1⟩:=hx (j+1:Nat) (by omega) (by omega)
  obtain⟨k1,k2⟩:=ZeL hg hx (j:=j) (by omega)
  have hv:ZY.f d v g (xs.take j++[T g (rd xs j) (rd xs (j+1:Nat))]++xs.drop (j+2))=some (At g v (join2 g xs j)):=show ZY.f d v g (join2 g xs j)=_ from at_ hg hc k1 (by omega)
  have ht:=times2 hg a0 a1 b0 b1
  obtain⟨w3,w4,_,_⟩:=ZhH hg hm hc hx hl (j:=j) (by omega) k1 (by omega)
  have z1:(xs.take j).length=j:=by rw[List.length_take];omega
  have z0:([]:List Int).length=0:=rfl
  have z2:∀y:Int,([y]:List Int).length=1:=fun _=>rfl
  have z3:(xs.drop (j+2)).length=xs.length - (j+2):=List.length_drop
  rw[Z9.l0_eq,wn (j:=j) (by omega),w2n (j:=j) (by omega),Int.toNat_natCast,Int.toNat_natCast,z0,List.nil_append,z1,ht,Option.bind_some,z2]
  rw[List.length_append,z1,z2,z3,hv,Option.bind_some,w3,w4]
  (with_reducible repeat (first|refine Zj (by first|assumption|omega|rfl|exact B_pos (by omega)) ?_|refine Zi (by first|assumption|omega|decide|exact B_not (by omega)) ?_|refine Ze (by first|assumption) ?_|dsimp only))
  rfl)
 have wl:wrapI ((xs.length:Int) - 1)=(d:Int):=by rw[w64 (by omega) (by omega)];omega
 obtain⟨w3,_,_,_⟩:=ZhH hg hm hc hx hl (j:=d) (by omega) (hx.take d) (by rw[List.length_take];omega)
 have e1:xs.drop (1:Int).toNat=xs.drop 1:=rfl
 rw[Z9.f_eq,e1,h0,Option.bind_some,wl,ZkD hg hm hc hx hl]
 (with_reducible repeat (first|refine Zj (by first|assumption|omega|rfl|exact B_pos (by omega)) ?_|refine Zi (by first|assumption|omega|decide|exact B_not (by omega)) ?_|refine Ze (by first|assumption) ?_|dsimp only))
 refine loop.trans ?_
 rw[Z9.l0_eq,Int.toNat_natCast,hat,Option.bind_some,w3]
 (with_reducible repeat (first|refine Zj (by first|assumption|omega|rfl|exact B_pos (by omega)) ?_|refine Zi (by first|assumption|omega|decide|exact B_not (by omega)) ?_|refine Ze (by first|assumption) ?_|dsimp only))
 rfl
theorem Side_ {g:List (List Int)} (hg:Grp g) {m:Int} {u v xs:List Int} {d:Nat} (hm:Mdl g m u) (hc:Co g m d v) (hx:AllIn g.length xs) (hl:xs.length=d+1) :
  ZaN.f g m u d v xs=some (Bd g u v xs d%m):=by
 have hlu:=hm.len;have n8:=hg.n8;have d3:=hc.1.2;have m2:=hm.m2;have m12:=hm.m12
 obtain⟨x0,x1⟩:=hx 0 (by omega) (by omega)
 have h0:=At_ (u:=u) hg hc (hx.drop 1) (by rw[List.length_drop,hl];simp)
 have hat:=At_ (u:=u) hg hc (hx.take d) (by rw[List.length_take,hl];omega)
 have loop:=up d (fun i=>ZaN.l0 xs (d:Int) (bsum g u v xs i).1 (bsum g u v xs i).2 (i:Int) g m u d v) (fun j hj=>by
  obtain⟨a0,a1⟩:=hx j (by omega) (by omega)
  obtain⟨b0,b1⟩:=hx (j+1:Nat) (by omega) (by omega)
  obtain⟨k1,k2⟩:=ZeL hg hx (j:=j) (by omega)
  have hv:Zat.f g d v (xs.take j++[T g (rd xs j) (rd xs (j+1:Nat))]++xs.drop (j+2))=some (At g v (join2 g xs j)):=show Zat.f g d v (join2 g xs j)=_ from At_ (u:=u) hg hc k1 (by omega)
  have ra:=hg.row _ a0 a1
  obtain⟨w3,w4,_,_⟩:=ZhH hg hm hc hx hl (j:=j) (by omega) k1 (by omega)
  have z1:(xs.take j).length=j:=by rw[List.length_take];omega
  have z2:∀y:Int,([y]:List Int).length=1:=fun _=>rfl
  have z3:(xs.drop (j+2)).length=xs.length - (j+2):=List.length_drop
  have ho:=Own_ (xs.take j) (by omega)
  rw[ZaN.l0_eq,wn (j:=j) (by omega),w2n (j:=j) (by omega),Int.toNat_natCast,Int.toNat_natCast,ho,Option.bind_some,z2]
  rw[List.length_append,z1,z2,z3,hv,Option.bind_some,w3,w4]
  (with_reducible repeat (first|refine Zj (by first|assumption|omega|rfl|exact B_pos (by omega)) ?_|refine Zi (by first|assumption|omega|decide|exact B_not (by omega)) ?_|refine Ze (by first|assumption) ?_|dsimp only))
  rfl)
 have wl:wrapI ((xs.length:Int) - 1)=(d:Int):=by rw[w64 (by omega) (by omega)];omega
 obtain⟨w3,_,b1,b2⟩:=ZhH hg hm hc hx hl (j:=d) (by omega) (hx.take d) (by rw[List.length_take];omega)
 have e1:xs.drop (1:Int).toNat=xs.drop 1:=rfl
 have hmod:=Mod_ (a:=(bsum g u v xs d).1+(bsum g u v xs d).2*At g v (xs.take d)) (m:=m) (by omega) (by omega) (by omega) (by omega)
 rw[ZaN.f_eq,e1,h0,Option.bind_some,wl,ZkD hg hm hc hx hl]
 (with_reducible repeat (first|refine Zj (by first|assumption|omega|rfl|exact B_pos (by omega)) ?_|refine Zi (by first|assumption|omega|decide|exact B_not (by omega)) ?_|refine Ze (by first|assumption) ?_|dsimp only))
 refine loop.trans ?_
 rw[ZaN.l0_eq,Int.toNat_natCast,hat,Option.bind_some,w3,hmod]
 (with_reducible repeat (first|refine Zj (by first|assumption|omega|rfl|exact B_pos (by omega)) ?_|refine Zi (by first|assumption|omega|decide|exact B_not (by omega)) ?_|refine Ze (by first|assumption) ?_|dsimp only))
 rfl
noncomputable def bdV (g:List (List Int)) (u v:List Int) (d i:Nat):Int:=Bd g u v (lst ((g.length:Int) - 1) (d+1) (i:Int)) d
noncomputable def bdL (g:List (List Int)) (m:Int) (u v:List Int) (d:Nat):List Int:=(List.range (cells g ((d+1:Nat):Int)).toNat).map fun i=>bdV g u v d i%m
theorem Zgw {g:List (List Int)} (hg:Grp g) {m:Int} {u v:List Int} {d:Nat} (hm:Mdl g m u) (hc:Co g m d v):ZaX.f g m u d v=some (((d+1:Nat):Int),bdL g m u v d):=by
 have d3:=hc.1.2
 have hT:=told hg hm.m2 hm.m12 (n:=d+1) (by omega) (F:=fun z0=>(ZaK.f z0 g m u d v).map fun z=>z) (G:=bdV g u v d) (fun i hi=>by
  obtain⟨hx,_⟩:=Zb7 hg (n:=d+1) (i:=i) hi
  have hll:=ZbE ((g.length:Int) - 1) (d+1) i
  have e:ZaK.f (lst ((g.length:Int) - 1) (d+1) i) g m u d v=some (bdV g u v d i):=by
   rw[ZaK.f_eq,Zib hg hm hc hx hll];rfl
  show Option.map _ (ZaK.f _ g m u d v)=_
  rw[e];rfl)
 rw[ZaX.f_eq,wn (j:=d) (by omega),hT]
 rfl
def Cocy (g:List (List Int)) (m:Int) (u v:List Int) (d:Nat):Prop:=∀i:Int,0≤i→i < (cells g ((d+1:Nat):Int)).toNat→bdV g u v d i.toNat%m=0
theorem Zjb {g:List (List Int)} (hg:Grp g) {m:Int} {u v:List Int} {d:Nat} (hm:Mdl g m u) (hc:Co g m d v):Zan.f g m u d v=some (B (Cocy g m u v d)):=by
 have d3:=hc.1.2
 have hb:=ZbA hg (d:=((d+1:Nat):Int)) (by omega)
 have hl:(bdL g m u v d).length=(cells g ((d+1:Nat):Int)).toNat:=by rw[bdL,List.length_map,List.length_range]
 rw[Zan.f_eq,Zgw hg hm hc,Option.bind_some,hl]
 refine scanT _ (fun i=>Zan.l0 ((cells g ((d+1:Nat):Int)).toNat:Int) i (bdL g m u v d)) (fun i=>bdV g u v d i.toNat%m=0) (fun i i0 i1 _ => ?_) (fun _=>by(rw[Zan.l0_eq]);((with_reducible repeat (first|refine Zj (by first|assumption|omega|rfl|exact B_pos (by omega)) ?_|refine Zi (by first|assumption|omega|decide|exact B_not (by omega)) ?_|refine Ze (by first|assumption) ?_|dsimp only));first|done|(with_reducible rfl)|simp (disch:=omega) only[w64]|(show False;done)))
 obtain⟨n,rfl⟩:=Int.eq_ofNat_of_zero_le i0
 have e:rd (bdL g m u v d) (n:Int)=bdV g u v d n%m:=by
  rw[ZbW (by omega)];simp[bdL]
 rw[Int.toNat_natCast]
 refine⟨fun h => ?_,fun h => ?_⟩ <;> rw[Zan.l0_eq,e] <;> ((with_reducible repeat (first|refine Zj (by first|assumption|omega|rfl|exact B_pos (by omega)) ?_|refine Zi (by first|assumption|omega|decide|exact B_not (by omega)) ?_|refine Ze (by first|assumption) ?_|dsimp only));first|done|(with_reducible rfl)|simp (disch:=omega) only[w64]|(show False;done))
end Go.Proofs.YtoljodiflhbohaaGreatDoor.V
namespace Go.Proofs.YtoljodiflhbohaaGreatDoor.V
open Go.RowKit Go.Proofs.YtoljodiflhbohaaGreatDoor.D
abbrev Vc:=Nat→Int
inductive Sp (m:Int) (W:Nat) (G:Vc→Prop):Vc→Prop
 | nil:Sp m W G (fun _=>0)
 | add {x g:Vc} (c:Int):Sp m W G x→G g→Sp m W G (fun i=>x i+c*g i)
 | alike {x y:Vc}:Sp m W G x→(∀i,i < W→m∣x i - y i)→Sp m W G y
section
variable {m:Int} {W:Nat} {G G' : Vc→Prop} {x y:Vc}
theorem Zcx {m a b:Int} (h:a=b):m∣a - b:=⟨0,by omega⟩
theorem Sp.plus (hx:Sp m W G x) (hy:Sp m W G y):Sp m W G (fun i=>x i+y i):=by
 induction hy with
 | nil=>exact .alike hx fun i _=>Zcx (by dsimp only;omega)
 | add c _ hg ih=>exact .alike (.add c ih hg) fun i _=>Zcx (by dsimp only;omega)
 | alike _ h ih =>
  refine .alike ih fun i hi => ?_
  have:=h i hi
  rwa[show ∀a b c:Int,a+b - (a+c)=b - c from fun a b c=>by omega]
theorem Sp.mul (c:Int) (hx:Sp m W G x):Sp m W G (fun i=>c*x i):=by
 induction hx with
 | nil=>exact .alike .nil fun i _=>Zcx (by simp)
 | add d _ hg ih=>exact .alike (.add (c*d) ih hg) fun i _=>Zcx (by rw[Int.mul_add,Int.mul_assoc])
 | alike _ h ih =>
  refine .alike ih fun i hi => ?_
  rw[←Int.mul_sub]
  exact Int.dvd_mul_of_dvd_right (h i hi)
theorem Sp.gen {g:Vc} (h:G g):Sp m W G g := .alike (.add 1 .nil h) fun i _=>Zcx (by omega)
theorem Sp.mono (h:∀g,G g→Sp m W G' g) (hx:Sp m W G x):Sp m W G' x:=by
 induction hx with
 | nil=>exact .nil
 | add c _ hg ih=>exact ih.plus ((h _ hg).mul c)
 | alike _ h' ih=>exact .alike ih h'
theorem Sp.two {a b:Int} (hx:Sp m W G x) (hy:Sp m W G y) {z:Vc} (h:∀i,i < W→m∣a*x i+b*y i - z i):Sp m W G z := .alike ((hx.mul a).plus (hy.mul b)) h
theorem Sp.dvd {d:Int} (hd:d∣m) {i:Nat} (hi:i < W) (h:∀g,G g→d∣g i) (hx:Sp m W G x):d∣x i:=by
 induction hx with
 | nil=>exact Int.dvd_zero d
 | add c _ hg ih=>exact Int.dvd_add ih (Int.dvd_mul_of_dvd_right (h _ hg))
 | alike _ h' ih =>
  have:=Int.dvd_sub ih (Int.dvd_trans hd (h' i hi))
  rwa[show ∀a b:Int,a - (a - b)=b from fun a b=>by omega]at this
structure Sub (m:Int) (W:Nat) (M:Vc→Prop):Prop where
 zero:M fun _=>0
 lin:∀x y,M x→M y→∀c,M fun i=>x i+c*y i
 alike:∀x y,M x→(∀i,i < W→m∣x i - y i)→M y
theorem Sp.sub:Sub m W (Sp m W G):=⟨.nil,fun _ _ hx hy c=>hx.plus (hy.mul c),fun _ _ hx h => .alike hx h⟩
theorem Sub.all {M:Vc→Prop} (hM:Sub m W M) (h:∀g,G g→M g) (hx:Sp m W G x):M x:=by
 induction hx with
 | nil=>exact hM.zero
 | add c _ hg ih=>exact hM.lin _ _ ih (h _ hg) c
 | alike _ h' ih=>exact hM.alike _ _ ih h'
end
def V (x:List Int):Vc:=fun i=>rd x (i:Int)
structure PRow (m:Int) (W j:Nat) (r:List Int):Prop where
 len:r.length=W
 ent:AllIn m r
 zero:∀i:Nat,i < j→rd r (i:Int)=0
 pos:0 < rd r (j:Int)
 lt:rd r (j:Int) < m
 dvd:rd r (j:Int)∣m
structure PTab (m:Int) (W:Nat) (p:List (List Int)):Prop where
 len:p.length=W
 rws:∀j:Nat,j < W→row p (j:Int)=[]∨PRow m W j (row p (j:Int))
def Rws (W:Nat) (p:List (List Int)) (k:Nat):Vc→Prop:=fun g=>∃j:Nat,k≤j∧j < W∧row p (j:Int)≠[]∧g=V (row p (j:Int))
def GT (W:Nat) (p st:List (List Int)) (k:Nat):Vc→Prop:=fun g=>Rws W p k g∨∃s∈st,(∀i:Nat,i < k→rd s (i:Int)=0)∧g=V s
def How (m:Int) (W:Nat) (p:List (List Int)) (G:Nat→Vc→Prop):Prop:=∀j:Nat,j < W→row p (j:Int)≠[]→Sp m W (G (j+1)) (fun i=>m / rd (row p (j:Int)) (j:Int)*rd (row p (j:Int)) (i:Int))
structure Inv (m:Int) (W:Nat) (p st:List (List Int)):Prop where
 tab:PTab m W p
 sts:∀s∈st,s.length=W∧AllIn m s
 how:How m W p (GT W p st)
def dv (m:Int) (p:List (List Int)) (j:Nat):Int:=if row p (j:Int)=[]then m else rd (row p (j:Int)) (j:Int)
structure Lead (m:Int) (W:Nat) (p:List (List Int)) (M:Vc→Prop):Prop where
 tab:PTab m W p
 sub:Sub m W M
 own:∀j:Nat,j < W→row p (j:Int)≠[]→M (V (row p (j:Int)))
 lead:∀x,M x→∀j:Nat,j < W→(∀i:Nat,i < j→m∣x i)→dv m p j∣x j
section
variable {m:Int} {W:Nat} {p:List (List Int)}
theorem PTab.prow (h:PTab m W p) {j:Nat} (hj:j < W) (hr:row p (j:Int)≠[]):PRow m W j (row p (j:Int)):=(h.rws j hj).resolve_left hr
theorem Rws.zero (h:PTab m W p) {k j:Nat} {g:Vc} (hg:Rws W p k g) (hj:j < k):g j=0:=by
 obtain⟨i,h1,h2,h3,rfl⟩:=hg
 exact(h.prow h2 h3).zero j (by omega)
theorem Rws.part {k:Nat} (hk:k < W) (hr:row p (k:Int)≠[]) {x:Vc} (hx:Sp m W (Rws W p k) x):∃(c:Int) (w:Vc),Sp m W (Rws W p (k+1)) w∧∀i,i < W→m∣c*V (row p (k:Int)) i+w i - x i:=by
 induction hx with
 | nil=>exact⟨0,_,.nil,fun i _=>Zcx (by simp)⟩
 | add d _ hg ih =>
  obtain⟨c,w,h1,h2⟩:=ih
  obtain⟨j,j1,j2,j3,rfl⟩:=hg
  by_cases e:j=k
  ·
   subst e
   refine⟨c+d,w,h1,fun i hi => ?_⟩
   have:=h2 i hi
   rw[Int.add_mul]
   rwa[show ∀a b c d:Int,a+b+c - (d+b)=a+c - d from fun a b c d=>by omega]
  ·
   refine⟨c,_,.add d h1 ⟨j,by omega,j2,j3,rfl⟩,fun i hi => ?_⟩
   have:=h2 i hi
   dsimp only
   rwa[show ∀a b c d:Int,a+(b+c) - (d+c)=a+b - d from fun a b c d=>by omega]
 | alike _ h ih =>
  obtain⟨c,w,h1,h2⟩:=ih
  refine⟨c,w,h1,fun i hi => ?_⟩
  have:=Int.dvd_add (h2 i hi) (h i hi)
  rwa[show ∀a b c:Int,a - b+(b - c)=a - c from fun a b c=>by omega]at this
theorem Rws.next {k:Nat} (hr:row p (k:Int)=[]) {x:Vc} (hx:Sp m W (Rws W p k) x):Sp m W (Rws W p (k+1)) x:=hx.mono fun g ⟨j,j1,j2,j3,e⟩ => .gen ⟨j,by
 rcases Nat.lt_or_eq_of_le j1 with h|rfl
 ·
  exact h
 ·
  exact absurd hr j3,j2,j3,e⟩
theorem Rws.down (m0:0 < m) (ht:PTab m W p) (hh:How m W p (Rws W p)) {x:Vc} (hx:Sp m W (Rws W p 0) x) {j:Nat} (hj:j≤W) (hz:∀i:Nat,i < j→m∣x i):∀k,k≤j→Sp m W (Rws W p k) x:=by
 intro k
 induction k with
 | zero=>exact fun _=>hx
 | succ k ih =>
  intro hk
  have h:=ih (by omega)
  by_cases hr:row p (k:Int)=[]
  ·
   exact Rws.next hr h
  have hp:=ht.prow (by omega) hr
  obtain⟨c,w,h1,h2⟩:=Rws.part (by omega) hr h
  have hw:m∣w k:=h1.dvd (Int.dvd_refl m) (by omega) fun g hg=>by rw[Rws.zero ht hg (by omega)];exact Int.dvd_zero m
  have hc:m∣c*rd (row p (k:Int)) (k:Int):=by
   have:=Int.dvd_add (h2 k (by omega)) (hz k (by omega))
   rw[show ∀a b c:Int,a+b - c+c=a+b from fun a b c=>by omega]at this
   have:=Int.dvd_sub this hw
   rwa[show ∀a b:Int,a+b - b=a from fun a b=>by omega]at this
  obtain⟨q,hq⟩:=hp.dvd
  have hd:=hp.pos
  have hmd:m / rd (row p (k:Int)) (k:Int)=q:=by rw[hq];exact Int.mul_ediv_cancel_left _ (by omega)
  obtain⟨t,ht'⟩:q∣c:=by
   obtain⟨t,ht'⟩:=hc
   refine⟨t,Int.eq_of_mul_eq_mul_left (show rd (row p (k:Int)) (k:Int)≠0 by omega) ?_⟩
   rw[Int.mul_comm,ht', hq,Int.mul_assoc]
  have hH:=hh k (by omega) hr
  rw[hmd]at hH
  refine .alike ((hH.mul t).plus h1) fun i hi => ?_
  have:=h2 i hi
  rwa[show t*(q*rd (row p (k:Int)) (i:Int))=c*V (row p (k:Int)) i by rw[ht', ←Int.mul_assoc,Int.mul_comm t q];rfl]
theorem Zk0 (m0:0 < m) (ht:PTab m W p) (hh:How m W p (Rws W p)) {M:Vc→Prop} (hM:∀x,Sp m W (Rws W p 0) x↔M x):Lead m W p M where
 tab:=ht
 sub:=by rw[show M=Sp m W (Rws W p 0)from funext fun x=>propext (hM x).symm];exact Sp.sub
 own:=fun j hj hr=>(hM _).1 (.gen ⟨j,Nat.zero_le _,hj,hr,rfl⟩)
 lead:=fun x hx j hj hz=>by
  have h:=Rws.down m0 ht hh ((hM x).2 hx) (Nat.le_of_lt hj) hz j (Nat.le_refl _)
  unfold dv
  by_cases hr:row p (j:Int)=[]
  ·
   rw[if_pos hr]
   exact(Rws.next hr h).dvd (Int.dvd_refl m) hj fun g hg=>by rw[Rws.zero ht hg (by omega)];exact Int.dvd_zero m
  ·
   rw[if_neg hr]
   have hp:=ht.prow hj hr
   refine h.dvd hp.dvd hj fun g hg => ?_
   obtain⟨i,i1,i2,i3,rfl⟩:=hg
   by_cases e:i=j
   ·
    subst e;exact Int.dvd_refl _
   ·
    have:V (row p (i:Int)) j=0:=(ht.prow i2 i3).zero j (by omega)
    rw[this];exact Int.dvd_zero _
theorem dv_bd (m0:0 < m) (ht:PTab m W p) {j:Nat} (hj:j < W):0 < dv m p j∧dv m p j≤m∧dv m p j∣m:=by
 unfold dv
 by_cases hr:row p (j:Int)=[]
 ·
  rw[if_pos hr];exact⟨m0,Int.le_refl _,Int.dvd_refl _⟩
 ·
  rw[if_neg hr]
  have hp:=ht.prow hj hr
  exact⟨hp.pos,by have:=hp.lt;omega,hp.dvd⟩
theorem Zi1 {a b:Int} (ha:0 < a) (hb:0 < b) (h:a∣b):a≤b:=Int.le_of_dvd hb h
theorem ZkX (m0:0 < m) {p' : List (List Int)} {M:Vc→Prop} (h:Lead m W p M) (h' : Lead m W p' M) {j:Nat} (hj:j < W):dv m p j=dv m p' j:=by
 have key:∀{p p' : List (List Int)},Lead m W p M→Lead m W p' M→dv m p j∣dv m p' j:=fun {p p'} h h' => by
  by_cases hr:row p' (j:Int)=[]
  ·
   rw[show dv m p' j=m from if_pos hr];exact(dv_bd m0 h.tab hj).2.2
  ·
   rw[show dv m p' j=rd (row p' (j:Int)) (j:Int)from if_neg hr]
   have hp:=h'.tab.prow hj hr
   exact h.lead _ (h'.own j hj hr) j hj fun i hi=>by rw[show V (row p' (j:Int)) i=0 from hp.zero i hi];exact Int.dvd_zero m
 have a:=Zi1 (dv_bd m0 h.tab hj).1 (dv_bd m0 h'.tab hj).1 (key h h')
 have b:=Zi1 (dv_bd m0 h'.tab hj).1 (dv_bd m0 h.tab hj).1 (key h' h)
 omega
structure Least (m:Int) (W:Nat) (p:List (List Int)) (M:Vc→Prop) (x y:List Int):Prop where
 len:y.length=W
 ent:AllIn m y
 dif:M fun i=>rd x (i:Int) - rd y (i:Int)
 lt:∀j:Nat,j < W→rd y (j:Int) < dv m p j
theorem Least.same (m0:0 < m) {p' : List (List Int)} {M:Vc→Prop} (h:Lead m W p M) (h' : Lead m W p' M) {x y y' : List Int} (hy:Least m W p M x y) (hy' : Least m W p' M x y'):y=y' := by
 have hd:M fun i=>rd y (i:Int) - rd y' (i:Int):=by
  refine h.sub.alike _ _ (h.sub.lin _ _ hy'.dif hy.dif (-1)) fun i _=>Zcx ?_
  omega
 have hall:∀n,n≤W→∀i:Nat,i < n→rd y (i:Int)=rd y' (i:Int):=by
  intro n
  induction n with
  | zero=>intro _ i hi;omega
  | succ n ih =>
   intro hn i hi
   have ih:=ih (by omega)
   by_cases e:i=n
   ·
    subst e
    have hl:=h.lead _ hd i (by omega) fun k hk=>by rw[ih k hk];exact⟨0,by omega⟩
    have a1:=hy.lt i (by omega)
    have a2:=hy'.lt i (by omega)
    rw[←ZkX m0 h h' (show i < W by omega)]at a2
    obtain⟨b1,_⟩:=hy.ent i (by omega) (by rw[hy.len];omega)
    obtain⟨b2,_⟩:=hy'.ent i (by omega) (by rw[hy'.len];omega)
    have hd0:=(dv_bd m0 h.tab (show i < W by omega)).1
    obtain⟨q,hq⟩:=hl
    have q0:q=0:=by
     rcases Int.lt_trichotomy q 0 with h|h|h
     ·
      have:=Int.mul_le_mul_of_nonneg_left (show q ≤ -1 by omega) (Int.le_of_lt hd0)
      omega
     ·
      exact h
     ·
      have:=Int.mul_le_mul_of_nonneg_left (show 1≤q by omega) (Int.le_of_lt hd0)
      omega
    rw[q0]at hq
    omega
   ·
    exact ih i (by omega)
 refine Zi3 (by rw[hy.len,hy'.len]) fun i i0 i1 => ?_
 obtain⟨n,rfl⟩:=Int.eq_ofNat_of_zero_le i0
 exact hall W (Nat.le_refl _) n (by have:=hy.len;omega)
end
end Go.Proofs.YtoljodiflhbohaaGreatDoor.V
namespace Go.Proofs.YtoljodiflhbohaaGreatDoor.V
open Go.RowKit Go.Proofs.YtoljodiflhbohaaGreatDoor.D Go.Proofs.YtoljodiflhbohaaGreatDoor.P
def mix (m x:Int) (a:List Int) (y:Int) (b:List Int):List Int:=(List.range a.length).map fun(i:Nat)=>(x*rd a (i:Int)+y*rd b (i:Int))%m
theorem ZfF (m x:Int) (a:List Int) (y:Int) (b:List Int):(mix m x a y b).length=a.length:=by simp[mix]
theorem Zjj {m x:Int} {a:List Int} {y:Int} {b:List Int} {i:Nat} (h:i < a.length):rd (mix m x a y b) (i:Int)=(x*rd a (i:Int)+y*rd b (i:Int))%m:=by
 rw[ZbW (by rw[ZfF];exact h)]
 simp[mix]
theorem Zly {m x:Int} {a:List Int} {y:Int} {b:List Int} (m0:0 < m):AllIn m (mix m x a y b):=by
 refine ZbU fun z hz => ?_
 obtain⟨i,_,rfl⟩:=List.mem_map.1 hz
 exact⟨Int.emod_nonneg _ (by omega),Int.emod_lt_of_pos _ m0⟩
theorem Zk3 {m x:Int} {a:List Int} {y:Int} {b:List Int} {i:Nat} (h:i < a.length):m∣x*rd a (i:Int)+y*rd b (i:Int) - rd (mix m x a y b) (i:Int):=by
 rw[Zjj h]
 exact Int.dvd_self_sub_emod
theorem Zlz {x a B m:Int} (x0 : -B≤x) (x1:x≤B) (a0:0≤a) (a1:a < m) (m1:m≤12) (B0:0≤B) : -(12*B)≤x*a∧x*a≤12*B:=by
 have h1:x*a≤B*a:=Int.mul_le_mul_of_nonneg_right x1 a0
 have h2:(-B)*a≤x*a:=Int.mul_le_mul_of_nonneg_right x0 a0
 have h3:B*a≤B*12:=Int.mul_le_mul_of_nonneg_left (by omega) B0
 rw[Int.neg_mul]at h2
 constructor <;> omega
end Go.Proofs.YtoljodiflhbohaaGreatDoor.V
namespace Go.Proofs.YtoljodiflhbohaaGreatDoor.V
open Go.RowKit Go.Proofs.YtoljodiflhbohaaGreatDoor.D Go.Proofs.YtoljodiflhbohaaGreatDoor.P
end Go.Proofs.YtoljodiflhbohaaGreatDoor.V
namespace Go.Proofs.YtoljodiflhbohaaGreatDoor.V
open Go.RowKit Go.Proofs.YtoljodiflhbohaaGreatDoor.D
theorem ZgZ {p:List (List Int)} {j:Nat} {n:List Int} (h:j < p.length):row (p.set j n) (j:Int)=n:=by
 rw[Zgh (by rw[List.length_set];exact h)]
 simp
theorem Ziu {p:List (List Int)} {i j:Nat} {n:List Int} (h:i≠j):row (p.set j n) (i:Int)=row p (i:Int):=by
 simp only[row,Int.toNat_natCast,List.getD_eq_getElem?_getD,List.getElem?_set,if_neg (show ¬ j=i from fun e=>h e.symm)]
def Zb (k:Nat) (s:List Int):Prop:=∀i:Nat,i < k→rd s (i:Int)=0
section
variable {m:Int} {W:Nat} {p p' st st' : List (List Int)} {M:Vc→Prop}
theorem PTab.set (h:PTab m W p) {j:Nat} {n:List Int} (hj:j < W) (hn:PRow m W j n):PTab m W (p.set j n) where
 len:=by rw[List.length_set];exact h.len
 rws:=fun i hi=>by
  by_cases e:i=j
  ·
   subst e;rw[ZgZ (by rw[h.len];exact hj)];exact .inr hn
  ·
   rw[Ziu e];exact h.rws i hi
theorem PRow.ne {j:Nat} {n:List Int} (h:PRow m W j n):n≠[]:=fun e=>by
 have:=h.pos
 rw[e]at this
 simp[rd]at this
structure Pst (m:Int) (W:Nat) (p st:List (List Int)) (M:Vc→Prop):Prop where
 inv:Inv m W p st
 spn:∀x,Sp m W (GT W p st 0) x↔M x
theorem Pst.step (h:Pst m W p st M) (ht:PTab m W p') (hs:∀s∈st', s.length=W∧AllIn m s)
  (ha:∀k g,GT W p st k g→Sp m W (GT W p' st' k) g) (hb:∀g,GT W p' st' 0 g→Sp m W (GT W p st 0) g)
  (hn:∀j:Nat,j < W→row p' (j:Int)≠[]→row p' (j:Int)≠row p (j:Int)→Sp m W (GT W p' st' (j+1)) (fun i=>m / rd (row p' (j:Int)) (j:Int)*rd (row p' (j:Int)) (i:Int))):Pst m W p' st' M where
 inv:=⟨ht,hs,fun j hj hr=>by
  by_cases e:row p' (j:Int)=row p (j:Int)
  ·
   have:=h.inv.how j hj (by rw[←e];exact hr)
   rw[e]
   exact this.mono (ha (j+1))
  ·
   exact hn j hj hr e⟩
 spn:=fun x=>by
  rw[←h.spn x]
  exact⟨fun hx=>hx.mono hb,fun hx=>hx.mono (ha 0)⟩
theorem GT.zb {k:Nat} {s:List Int} (hs:s∈st) (hz:Zb k s):GT W p st k (V s) := .inr ⟨s,hs,hz,rfl⟩
theorem Pst.drop {v:List Int} (h:Pst m W p (st++[v]) M) (hz:Zb W v):Pst m W p st M:=by
 refine h.step h.inv.tab (fun s hs=>h.inv.sts s (List.mem_append_left _ hs)) (fun k g hg => ?_) (fun g hg => .gen ?_) (fun j _ _ e=>absurd rfl e)
 ·
  rcases hg with hg|⟨s,hs,hk,rfl⟩
  ·
   exact .gen (.inl hg)
  ·
   rcases List.mem_append.1 hs with hs|hs
   ·
    exact .gen (.inr ⟨s,hs,hk,rfl⟩)
   ·
    rw[List.mem_singleton]at hs
    subst hs
    exact .alike .nil fun i hi=>by rw[show V s i=0 from hz i hi];exact⟨0,by omega⟩
 ·
  rcases hg with hg|⟨s,hs,hk,rfl⟩
  ·
   exact .inl hg
  ·
   exact .inr ⟨s,List.mem_append_left _ hs,hk,rfl⟩
theorem Pst.less {v w:List Int} {c:Int} (h:Pst m W p (st++[v]) M) {j:Nat} (hj:j < W) (hr:row p (j:Int)≠[]) (hvj:rd v (j:Int)≠0) (hw:w.length=W∧AllIn m w) (hz:Zb j w)
  (he:∀i:Nat,i < W→m∣1*rd v (i:Int)+(-c)*rd (row p (j:Int)) (i:Int) - rd w (i:Int)):Pst m W p (st++[w]) M:=by
 refine h.step h.inv.tab (fun s hs => ?_) (fun k g hg => ?_) (fun g hg => ?_) (fun j _ _ e=>absurd rfl e)
 ·
  rcases List.mem_append.1 hs with hs|hs
  ·
   exact h.inv.sts s (List.mem_append_left _ hs)
  ·
   rw[List.mem_singleton]at hs;subst hs;exact hw
 ·
  rcases hg with hg|⟨s,hs,hk,rfl⟩
  ·
   exact .gen (.inl hg)
  ·
   rcases List.mem_append.1 hs with hs|hs
   ·
    exact .gen (.inr ⟨s,List.mem_append_left _ hs,hk,rfl⟩)
   ·
    rw[List.mem_singleton]at hs
    subst hs
    have hkj:k≤j:=by
     by_cases q:k≤j
     ·
      exact q
     ·
      exact absurd (hk j (by omega)) hvj
    refine Sp.two (a:=1) (b:=c) (x:=V w) (y:=V (row p (j:Int))) (.gen (GT.zb (List.mem_append_right _ (List.mem_singleton.2 rfl)) fun i hi=>hz i (by omega))) (.gen (.inl ⟨j,hkj,hj,hr,rfl⟩)) fun i hi => ?_
    obtain⟨q,hq⟩:=he i hi
    refine⟨-q,?_⟩
    rw[Int.mul_neg,←hq,Int.neg_mul]
    show 1*rd w (i:Int)+c*rd (row p (j:Int)) (i:Int) - rd s (i:Int)=_
    omega
 ·
  rcases hg with hg|⟨s,hs,hk,rfl⟩
  ·
   exact .gen (.inl hg)
  ·
   rcases List.mem_append.1 hs with hs|hs
   ·
    exact .gen (.inr ⟨s,List.mem_append_left _ hs,hk,rfl⟩)
   ·
    rw[List.mem_singleton]at hs
    subst hs
    exact Sp.two (a:=1) (b := -c) (x:=V v) (y:=V (row p (j:Int))) (.gen (GT.zb (List.mem_append_right _ (List.mem_singleton.2 rfl)) fun i hi=>by omega)) (.gen (.inl ⟨j,Nat.zero_le _,hj,hr,rfl⟩)) fun i hi=>he i hi
end
end Go.Proofs.YtoljodiflhbohaaGreatDoor.V
set_option maxHeartbeats 4000000
namespace Go.Proofs.YtoljodiflhbohaaGreatDoor.V
open Go.RowKit Go.Proofs.YtoljodiflhbohaaGreatDoor.D Go.Proofs.YtoljodiflhbohaaGreatDoor.P
end Go.Proofs.YtoljodiflhbohaaGreatDoor.V
namespace Go.Proofs.YtoljodiflhbohaaGreatDoor.V
open Go.RowKit Go.Proofs.YtoljodiflhbohaaGreatDoor.D Go.Proofs.YtoljodiflhbohaaGreatDoor.P
end Go.Proofs.YtoljodiflhbohaaGreatDoor.V
namespace Go.Proofs.YtoljodiflhbohaaGreatDoor.V
open Go.RowKit Go.Proofs.YtoljodiflhbohaaGreatDoor.D Go.Proofs.YtoljodiflhbohaaGreatDoor.P
section
variable {m:Int} {W:Nat} {p:List (List Int)} {M:Vc→Prop} {G G' : Vc→Prop}
theorem Pst.lead (m0:0 < m) (h:Pst m W p [] M):Lead m W p M:=by
 have e:∀k g,GT W p [] k g→Sp m W (Rws W p k) g:=fun k g hg=>by
  rcases hg with hg|⟨s,hs,_⟩
  ·
   exact .gen hg
  ·
   cases hs
 exact Zk0 m0 h.inv.tab (fun j hj hr=>(h.inv.how j hj hr).mono (e _)) fun x=>by
  rw[←h.spn x]
  exact⟨fun hx=>hx.mono fun g hg => .gen (.inl hg),fun hx=>hx.mono (e 0)⟩
theorem Pst.add {r:List Int} (h:Pst m W p [] (Sp m W G)) (hr:r.length=W∧AllIn m r) (hG:∀g,G' g↔G g∨g=V r):Pst m W p [r] (Sp m W G') where
 inv:=⟨h.inv.tab,fun s hs=>by rw[List.mem_singleton]at hs;subst hs;exact hr,fun j hj hn=>(h.inv.how j hj hn).mono fun g hg=>by
  rcases hg with hg|⟨s,hs,_⟩
  ·
   exact .gen (.inl hg)
  ·
   cases hs⟩
 spn := fun x=>by
  constructor
  ·
   intro hx
   refine hx.mono fun g hg => ?_
   rcases hg with hg|⟨s,hs,_,rfl⟩
   ·
    exact((h.spn g).1 (.gen (.inl hg))).mono fun g hg => .gen ((hG g).2 (.inl hg))
   ·
    rw[List.mem_singleton]at hs
    subst hs
    exact .gen ((hG _).2 (.inr rfl))
  ·
   intro hx
   refine hx.mono fun g hg => ?_
   rcases(hG g).1 hg with hg|rfl
   ·
    refine((h.spn g).2 (.gen hg)).mono fun g hg => ?_
    rcases hg with hg|⟨s,hs,_⟩
    ·
     exact .gen (.inl hg)
    ·
     cases hs
   ·
    exact .gen (.inr ⟨r,List.mem_singleton.2 rfl,fun i hi=>by omega,rfl⟩)
theorem Zgi (n:Nat) (i:Int):row (List.replicate n ([]:List Int)) i=[]:=by
 simp only[row,List.getD_eq_getElem?_getD,List.getElem?_replicate]
 split <;> rfl
theorem Pst.none (hG:∀g,¬ G g):Pst m W (List.replicate W []) [] (Sp m W G) where
 inv:=⟨⟨List.length_replicate,fun j _ => .inl (Zgi _ _)⟩,fun s hs=>(by cases hs),fun j _ hn=>absurd (Zgi _ _) hn⟩
 spn:=fun x=>by
  constructor
  ·
   intro hx
   refine hx.mono fun g hg => ?_
   rcases hg with ⟨j,_,_,hn,_⟩|⟨s,hs,_⟩
   ·
    exact absurd (Zgi _ _) hn
   ·
    cases hs
  ·
   intro hx
   exact hx.mono fun g hg=>absurd hg (hG g)
theorem Zgf {r:List Int} {A i:Nat} (h:i < A):rd (r.take A) (i:Int)=rd r (i:Int):=by
 simp[rd,List.getD_eq_getElem?_getD,List.getElem?_take,h]
theorem Lead.first {A B:Nat} {q:List (List Int)} (h:Lead m (A+B) p M) (m0:0 < m) (hl:q.length=A) (hr:∀j:Nat,j < A→row q (j:Int)=(row p (j:Int)).take A) :
    Lead m A q (fun x=>∃y,M y∧∀i,i < A→m∣y i - x i):=by
  have hP:∀j:Nat,j < A→row p (j:Int)≠[]→PRow m A j (row q (j:Int)):=fun j hj hn=>by
    have k:=h.tab.prow (show j < A+B by omega) hn
    rw[hr j hj]
    refine⟨by rw[List.length_take,k.len];omega,k.ent.take _,fun i hi=>by rw[Zgf (by omega)];exact k.zero i hi,?_,?_,?_⟩ <;> rw[Zgf hj]
    · exact k.pos
    · exact k.lt
    · exact k.dvd
  have hE:∀j:Nat,j < A→(row q (j:Int)=[]↔row p (j:Int)=[]):=fun j hj=>by
    constructor
    · intro e
      by_cases hn:row p (j:Int)=[]
      · exact hn
      · exact absurd e (hP j hj hn).ne
    · intro e;rw[hr j hj,e];simp
  have hdv:∀j:Nat,j < A→dv m q j=dv m p j:=fun j hj=>by
    unfold dv
    by_cases hn:row p (j:Int)=[]
    · rw[if_pos hn,if_pos ((hE j hj).2 hn)]
    · rw[if_neg hn,if_neg fun e=>hn ((hE j hj).1 e),hr j hj,Zgf hj]
  exact {
    tab:=⟨hl,fun j hj=>by
      by_cases hn:row p (j:Int)=[]
      · exact .inl ((hE j hj).2 hn)
      · exact .inr (hP j hj hn)⟩
    sub := ⟨⟨_,h.sub.zero,fun i _=>Zcx rfl⟩,fun x y ⟨x', hx,ex⟩ ⟨y', hy,ey⟩ c=>⟨_,h.sub.lin _ _ hx hy c,fun i hi=>by
      have:=Int.dvd_add (ex i hi) (Int.dvd_mul_of_dvd_right (b:=c) (ey i hi))
      rw[Int.mul_sub]at this
      rwa[show ∀a b c d:Int,a+c - (b+d)=a - b+(c - d)from fun a b c d=>by omega]⟩,
      fun x y ⟨x', hx,ex⟩ e=>⟨x', hx,fun i hi=>by
        have:=Int.dvd_add (ex i hi) (e i hi)
        rwa[show ∀a b c:Int,a - b+(b - c)=a - c from fun a b c=>by omega]at this⟩⟩
    own:=fun j hj hn=>⟨V (row p (j:Int)),h.own j (by omega) fun e=>hn ((hE j hj).2 e),fun i hi=>by
      refine Zcx ?_
      show rd (row p (j:Int)) (i:Int)=rd (row q (j:Int)) (i:Int)
      rw[hr j hj,Zgf hi]⟩
    lead:=fun x ⟨y,hy,e⟩ j hj hz=>by
      have:=h.lead y hy j (by omega) fun i hi=>by
        have:=Int.dvd_add (e i (by omega)) (hz i hi)
        rwa[show ∀a b:Int,a - b+b=a from fun a b=>by omega]at this
      rw[hdv j hj]
      have hd:=(dv_bd m0 h.tab (show j < A+B by omega)).2.2
      have:=Int.dvd_sub this (Int.dvd_trans hd (e j hj))
      rwa[show ∀a b:Int,a - (a - b)=b from fun a b=>by omega]at this }
end
theorem Zfk {t:List Int} {j:Nat} {x:Int} (h:j < t.length):rd (t.set j x) (j:Int)=x:=by
 rw[ZbW (by rw[List.length_set];exact h)];simp
theorem Zfj {t:List Int} {i j:Nat} {x:Int} (h:i≠j):rd (t.set j x) (i:Int)=rd t (i:Int):=by
 simp only[rd,Int.toNat_natCast,List.getD_eq_getElem?_getD,List.getElem?_set,if_neg (show ¬ j=i from fun e=>h e.symm)]
end Go.Proofs.YtoljodiflhbohaaGreatDoor.V
namespace Go.Proofs.YtoljodiflhbohaaGreatDoor.V
open Go.RowKit Go.Proofs.YtoljodiflhbohaaGreatDoor.D Go.Proofs.YtoljodiflhbohaaGreatDoor.P
noncomputable def nB (g:List (List Int)) (e:Nat):Nat:=(cells g (e:Int)).toNat
theorem nA_bd {g:List (List Int)} (hg:Grp g) {e:Nat} (he:e≤4):nB g e≤16807∧((nB g e:Nat):Int)=cells g (e:Int):=by
 have hb:=ZbA hg (d:=(e:Int)) (by omega)
 unfold nB
 omega
end Go.Proofs.YtoljodiflhbohaaGreatDoor.V
namespace Go.Proofs.YtoljodiflhbohaaGreatDoor.V
open Go.RowKit Go.Proofs.YtoljodiflhbohaaGreatDoor.D
def sgn:Nat→Int
 | 0 => -1
 | j+1=>0 - sgn j
def sumJ (g:List (List Int)) (A:List Int→Int) (xs:List Int):Nat→Int
 | 0=>0
 | j+1=>sumJ g A xs j+sgn j*A (join2 g xs j)
def BdS (g:List (List Int)) (u:List Int) (A:List Int→Int) (xs:List Int) (d:Nat):Int:=rd u (rd xs 0)*A (xs.drop 1)+sumJ g A xs d+sgn d*A (xs.take d)
theorem Bd_eq (g:List (List Int)) (u v xs:List Int) (d:Nat):Bd g u v xs d=BdS g u (At g v) xs d:=by
 have h:∀j,bsum g u v xs j=(rd u (rd xs 0)*At g v (xs.drop 1)+sumJ g (At g v) xs j,sgn j):=by
  intro j
  induction j with
  | zero=>simp[bsum,sumJ,sgn]
  | succ j ih=>simp only[bsum,ih,sumJ,sgn,Int.add_assoc]
 unfold Bd BdS
 rw[h d]
end Go.Proofs.YtoljodiflhbohaaGreatDoor.V
namespace Go.Proofs.YtoljodiflhbohaaGreatDoor.V
open Go.RowKit Go.Proofs.YtoljodiflhbohaaGreatDoor.D Go.Proofs.YtoljodiflhbohaaGreatDoor.P
theorem Zlf {xs:List Int} {n:Nat} (h:xs.length=n+1):∃ys x,xs=ys++[x]∧ys.length=n:=by
 have hne:xs≠[]:=fun e=>by rw[e]at h;simp at h
 refine⟨xs.dropLast,xs.getLast hne,(List.dropLast_concat_getLast hne).symm,by rw[List.length_dropLast];omega⟩
theorem Zjg {g:List (List Int)}:∀(n:Nat) (xs:List Int),xs.length=n→(∀x∈xs,1≤x∧x < g.length)→lst ((g.length:Int) - 1) n (idx g xs)=xs:=by
 intro n
 induction n with
 | zero=>intro xs hl _;rw[List.eq_nil_of_length_eq_zero hl];rfl
 | succ n ih =>
  intro xs hl hx
  obtain⟨ys,x,rfl,hy⟩:=Zlf hl
  obtain⟨x0,x1⟩:=hx x (by simp)
  rw[Zf3,lst]
  have e1:(idx g ys*((g.length:Int) - 1)+x - 1) / ((g.length:Int) - 1)=idx g ys:=by
   rw[show idx g ys*((g.length:Int) - 1)+x - 1=(x - 1)+idx g ys*((g.length:Int) - 1)by omega,Int.add_mul_ediv_right _ _ (by omega),Int.ediv_eq_zero_of_lt (by omega) (by omega)]
   omega
  have e2:(idx g ys*((g.length:Int) - 1)+x - 1)%((g.length:Int) - 1)=x - 1:=by
   rw[show idx g ys*((g.length:Int) - 1)+x - 1=(x - 1)+idx g ys*((g.length:Int) - 1)by omega,Int.add_mul_emod_self_right,Int.emod_eq_of_lt (by omega) (by omega)]
  rw[e1,e2,ih ys hy fun z hz=>hx z (by simp[hz]),show x - 1+1=x by omega]
theorem ZkZ {g:List (List Int)}:∀(n:Nat) (i:Int),0≤i→i < ((g.length:Int) - 1) ^ n→(n=0∨2≤g.length)→idx g (lst ((g.length:Int) - 1) n i)=i:=by
 intro n
 induction n with
 | zero=>intro i i0 i1 _;rw[Int.pow_zero]at i1;simp[lst,idx];omega
 | succ n ih =>
  intro i i0 i1 h2
  have hb:0 < (g.length:Int) - 1:=by omega
  rw[lst,Zf3,ih _ (Int.ediv_nonneg i0 (by omega)) (by
   rw[Int.pow_succ]at i1
   exact Int.ediv_lt_of_lt_mul hb i1) (by omega)]
  have:=Int.mul_ediv_add_emod i ((g.length:Int) - 1)
  rw[Int.mul_comm]at this
  omega
theorem Zll {g:List (List Int)} {C:Nat} {G:Nat→Int} {xs:List Int} (h:ZbG xs) (hi:(idx g xs).toNat < C):At g ((List.range C).map G) xs=G (idx g xs).toNat:=by
 unfold At
 rw[ZbK h]
 show((List.range C).map G).getD (idx g xs).toNat 0=_
 simp[List.getD_eq_getElem?_getD,List.getElem?_map,List.getElem?_range hi]
def ConP (g:List (List Int)) (m:Int) (u v r:List Int) (n:Nat):Prop:=∀x:Int,0≤x→x < n→∀y:Int,0≤y→y < n→T g x y < n→(rd r x+rd u x*rd r y+At g v [x,y])%m=rd r (T g x y)
theorem ConP.pre {g:List (List Int)} {m:Int} {u v r r' : List Int} {n n' : Nat} (h:ConP g m u v r n) (hn:n' ≤ n) (hg:Grp g) (hN:n≤g.length) (he:∀i:Int,0≤i→i < n' → rd r' i=rd r i):ConP g m u v r' n' := by
 intro x x0 x1 y y0 y1 ht
 have e:=h x x0 (by omega) y y0 (by omega) (by omega)
 obtain⟨t0,_⟩:=hg.ent x y x0 (by omega) y0 (by omega)
 rw[he x x0 x1,he y y0 y1,he _ t0 ht]
 exact e
theorem Zes {g:List (List Int)} {u h:List Int} {x y:Int}:Bd g u h [x,y] 1=rd u x*At g h [y] - At g h [T g x y]+At g h [x]:=by
 simp only[Bd,bsum,join2,List.take_zero,List.nil_append,List.drop_succ_cons,List.drop_zero,List.take_succ_cons]
 have e0:rd [x,y] 0=x:=rfl
 have e1:rd [x,y] ((0+1:Nat):Int)=y:=rfl
 have e2:rd [x,y] ((0:Nat):Int)=x:=rfl
 rw[e0,e1,e2,List.append_nil]
 omega
end Go.Proofs.YtoljodiflhbohaaGreatDoor.V
namespace Go.Proofs.YtoljodiflhbohaaGreatDoor.V
open Go.RowKit Go.Proofs.YtoljodiflhbohaaGreatDoor.D Go.Proofs.YtoljodiflhbohaaGreatDoor.P
def cg (m a b:Int):Prop:=m∣a - b
theorem Zbo (m a:Int):cg m a a:=⟨0,by simp⟩
theorem cg.symm {m a b:Int} (h:cg m a b):cg m b a:=by obtain⟨x,hx⟩:=h;exact⟨-x,by rw[Int.mul_neg];omega⟩
theorem cg.trans {m a b c:Int} (h:cg m a b) (k:cg m b c):cg m a c:=by obtain⟨x,hx⟩:=h;obtain⟨y,hy⟩:=k;exact⟨x+y,by rw[Int.mul_add];omega⟩
theorem Zdc {m a b c d:Int} (h:cg m a b) (k:cg m c d):cg m (a+c) (b+d):=by obtain⟨x,hx⟩:=h;obtain⟨y,hy⟩:=k;exact⟨x+y,by rw[Int.mul_add];omega⟩
theorem Zdo {m a b c d:Int} (h:cg m a b) (k:cg m c d):cg m (a - c) (b - d):=by obtain⟨x,hx⟩:=h;obtain⟨y,hy⟩:=k;exact⟨x - y,by rw[Int.mul_sub];omega⟩
theorem Zbt {m a b c d:Int} (h:cg m a b) (k:cg m c d):cg m (a*c) (b*d):=by
 obtain⟨x,hx⟩:=h;obtain⟨y,hy⟩:=k
 exact⟨x*c+b*y,by grind⟩
theorem Zbz (m a:Int):cg m (a%m) a:=cg.symm Int.dvd_self_sub_emod
theorem cg_eq {m a b:Int} (h:cg m a b):a%m=b%m:=Int.emod_eq_emod_iff_emod_sub_eq_zero.2 (Int.emod_eq_zero_of_dvd h)
theorem cg_of {m a b:Int} (h:a%m=b%m):cg m a b:=Int.dvd_of_emod_eq_zero (Int.emod_eq_emod_iff_emod_sub_eq_zero.1 h)
theorem Zb6 {m a b:Int} (h:a=b):cg m a b:=by rw[h];exact Zbo _ _
theorem Zke {m a b:Int} (h:cg m a b) (b0:0≤b) (b1:b < m):a%m=b:=by rw[cg_eq h,Int.emod_eq_of_lt b0 b1]
noncomputable def tl (g:List (List Int)) (d:Nat) (F:List Int→Int):List Int:=(List.range (cells g (d:Int)).toNat).map fun i:Nat=>F (lst ((g.length:Int) - 1) d (i:Int))
theorem At_tl {g:List (List Int)} (hg:Grp g) {d:Nat} (hd:d≤4) (F:List Int→Int) {xs:List Int} (hx:AllIn g.length xs) (hl:xs.length=d):At g (tl g d F) xs=ite_ (ZbG xs) (F xs) 0:=by
 by_cases h:ZbG xs
 rotate_left
 ·
  unfold At;rw[ZbN h,ZbN h]
 have hi:0≤idx g xs∧(idx g xs).toNat < nB g d:=by
  have hb:=ZhT hg hx xs.length (Nat.le_refl _) (fun j j0 j1=>h j j0 (by omega))
  rw[List.take_length,hl]at hb
  refine⟨hb.1,?_⟩
  obtain⟨b1,b2⟩:=nA_bd hg (e:=d) hd
  have:cells g (d:Int)=((g.length:Int) - 1) ^ d:=rfl
  omega
 have e:=Zll (g:=g) (C:=(cells g (d:Int)).toNat) (G:=fun i:Nat=>F (lst ((g.length:Int) - 1) d (i:Int))) h hi.2
 unfold tl
 rw[e,Int.toNat_of_nonneg hi.1,ZbK h,Zjg d xs hl fun x hx' => by
  obtain⟨j,hj,e⟩:=List.mem_iff_getElem.1 hx'
  obtain⟨a0,a1⟩:=hx.mem hx'
  have:=h (j:Int) (by omega) (by omega)
  rw[ZbW hj,e]at this
  omega]
theorem Zhx (C:Int→Int) {xs:List Int} {j:Nat} (h:j < xs.length):rd (xs.map C) (j:Int)=C (rd xs (j:Int)):=by
 rw[ZbW (by rw[List.length_map];exact h),List.getElem_map,←ZbW]
theorem Zjc {g g' : List (List Int)} {φ : Int→Int} (hφ : ∀x y:Int,0≤x→x < g.length→0≤y→y < g.length → φ (T g x y)=T g' (φ x) (φ y)) {xs:List Int} (hx:AllIn g.length xs) {j:Nat} (hj:j+1 < xs.length):(join2 g xs j).map φ = join2 g' (xs.map φ) j:=by
 obtain⟨a0,a1⟩:=hx (j:Int) (by omega) (by omega)
 obtain⟨b0,b1⟩:=hx ((j+1:Nat):Int) (by omega) (by omega)
 simp only[join2,List.map_append,List.map_take,List.map_drop,List.map_cons,List.map_nil]
 rw[hφ _ _ a0 a1 b0 b1,Zhx φ (by omega),Zhx φ (by omega)]
theorem Ziy {g g' : List (List Int)} (hg:Grp g) {m c:Int} {u u' : List Int} {φ : Int→Int} {A A' : List Int→Int} {d:Nat} {xs:List Int} (hx:AllIn g.length xs) (hl:xs.length=d+1)
  (hφ : ∀x y:Int,0≤x→x < g.length→0≤y→y < g.length → φ (T g x y)=T g' (φ x) (φ y))
  (hA:∀l,AllIn g.length l→l.length=d→cg m (A' l) (c*A (l.map φ))) (hu:∀x:Int,0≤x→x < g.length→cg m (rd u' x*c) (c*rd u (φ x))) :
  cg m (BdS g u' A' xs d) (c*BdS g' u A (xs.map φ) d):=by
 obtain⟨a0,a1⟩:=hx ((0:Nat):Int) (by omega) (by omega)
 have e0:rd (xs.map φ) 0 = φ (rd xs 0):=Zhx φ (j:=0) (by omega)
 have hs:∀j,j≤d→cg m (sumJ g A' xs j) (c*sumJ g' A (xs.map φ) j):=by
  intro j
  induction j with
  | zero=>intro _;exact Zb6 (by simp[sumJ])
  | succ j ih =>
   intro hj
   obtain⟨q1,q2⟩:=ZeL hg hx (j:=j) (by omega)
   have h1:=hA (join2 g xs j) q1 (by omega)
   rw[Zjc hφ hx (by omega)]at h1
   simp only[sumJ]
   refine(Zdc (ih (by omega)) (Zbt (Zbo m (sgn j)) h1)).trans (Zb6 ?_)
   grind
 have h1:=hA (xs.drop 1) (hx.drop 1) (by rw[List.length_drop];omega)
 have h3:=hA (xs.take d) (hx.take d) (by rw[List.length_take];omega)
 rw[List.map_drop]at h1
 rw[List.map_take]at h3
 have h2:=hu (rd xs 0) a0 a1
 unfold BdS
 rw[e0]
 refine(Zdc (Zdc ((Zbt (Zbo m (rd u' (rd xs 0))) h1).trans ((Zb6 (by grind:_=(rd u' (rd xs 0)*c)*A ((xs.map φ).drop 1))).trans (Zbt h2 (Zbo m _)))) (hs d (Nat.le_refl _))) (Zbt (Zbo m (sgn d)) h3)).trans (Zb6 ?_)
 grind
noncomputable def cupF (g:List (List Int)) (m:Int) (w:List Int) (p:Nat) (F H:List Int→Int) (xs:List Int):Int:=(F (xs.take p)*rd w ((xs.take p).foldl (T g) 0)*H (xs.drop p))%m
theorem ZfN {g:List (List Int)} {v xs:List Int} (h:¬ ZbG xs):At g v xs=0:=by unfold At;exact ZbN h _ _
theorem Zlj {g:List (List Int)} (hg:Grp g) {m:Int} {w f h:List Int} {p q:Nat} (hpq:p+q≤4) {xs:List Int} (hx:AllIn g.length xs) (hl:xs.length=p+q):At g (tl g (p+q) (cupF g m w p (At g f) (At g h))) xs=cupF g m w p (At g f) (At g h) xs:=by
 rw[At_tl hg hpq _ hx hl]
 by_cases hn:ZbG xs
 ·
  rw[ZbK hn]
 rw[ZbN hn]
 unfold cupF
 by_cases h1:ZbG (xs.take p)
 ·
  have h2:¬ ZbG (xs.drop p):=fun h2=>hn fun j j0 j1 e=>by
   obtain⟨k,rfl⟩:=Int.eq_ofNat_of_zero_le j0
   by_cases hk:k < p
   ·
    refine h1 (k:Int) j0 (by rw[List.length_take];omega) ?_
    rw[ZgX,List.getD_eq_getElem?_getD,List.getElem?_take,if_pos hk]
    rw[ZgX,List.getD_eq_getElem?_getD]at e
    exact e
   ·
    refine h2 ((k - p:Nat):Int) (by omega) (by rw[List.length_drop];omega) ?_
    rw[ZgX,List.getD_eq_getElem?_getD,List.getElem?_drop,show p+(k - p)=k by omega]
    rw[ZgX,List.getD_eq_getElem?_getD]at e
    exact e
  rw[ZfN h2,Int.mul_zero,Int.zero_emod]
 ·
  rw[ZfN h1,Int.zero_mul,Int.zero_mul,Int.zero_emod]
theorem ZcS {g:List (List Int)} (hg:Grp g) {m:Int} {u v xs:List Int} {d:Nat} (hd:d≤3) (hx:AllIn g.length xs) (hl:xs.length=d+1) (hn:ZbG xs):At g (bdL g m u v d) xs=Bd g u v xs d%m:=by
 have e:bdL g m u v d=tl g (d+1) (fun ys=>Bd g u v ys d%m):=rfl
 rw[e,At_tl hg (by omega) _ hx hl,ZbK hn]
end Go.Proofs.YtoljodiflhbohaaGreatDoor.V
