/- What the proof of the law OrderOfCohomology stands on, part 8: words, each Go function's Lean function, and that the Go code comes to its answers; no condition. (Packed by wip/myprint/pack.py out of what the kit's printer wrote, its words among it, partly by our patches of it, and out of texts of this session.) -/
import Derived.ChangeSlices
import Derived.ChangeSame
import Derived.Deep.Matrix
import Derived.Lib.SmallJoins
import Derived.Test.YtdamfbighdkcbaaRows
import Derived.WalkKit
import Derived.ProofKit
import Derived.KernelRfl
import Derived.Test.YtdamfbighdkcbaaKOrderOfCohomology7
set_option linter.unusedVariables false
set_option linter.unusedSimpArgs false
namespace Go.Proofs.Ytdamfbighdkcbaa.D
open Go Go.RowKit Go.ChangeShapes Go.WideShapes Go.Joins Go.Deep
section
variable {H:Type} {enc:TypeId×Value→H} {P:Program} {w:World} {base:Nat} {held:Bool}
abbrev Zw (w:World):Nat→Prop:=fun k=>k < w.heap.size
abbrev No:Nat→Prop:=fun _=>False
theorem Zip {q:TypeId} (hn:nf q=false) {k:IntKind} {a:Addr} {len cap:Nat} {zs:List Int} (hl:len≤cap) (hm:cap≤maxLen) (hz:zs.length=cap) (hc:∀i,i < zs.length→w.cell? (a.add i)=some (.int k (zs.getD i 0))) (hw:∀n∈zs,(Lit.int k n).wf=true) :
  ∃l:List Int,len=l.length∧l.length≤maxLen∧(∀x∈l,(Lit.int k x).wf=true)∧Rep (Zw w) w false (.sl q (.int k)) l [.slice (some a) len cap] No:=by
 have hlen:(zs.take len).length=len:=by rw[List.length_take];omega
 refine⟨zs.take len,hlen.symm,by omega,fun x hx=>hw x (List.mem_of_mem_take hx),some a,cap,by rw[hlen],?_,fun h=>by rw[hn]at h;cases h⟩
 refine ZiH Nat.one_pos (by show(zs.take len).length≤_;omega) (by show(zs.take len).length≤_;simp only[maxLen]at hm;omega) fun _=>⟨a,rfl,fun j p hj => ?_⟩
 have hj:(zs.take len)[j]? = some p:=hj
 have hjl:j < len:=by
  have:=(List.getElem?_eq_some_iff.1 hj).1
  omega
 refine⟨[.int k p],rfl,rfl,fun i u hu => ?_⟩
 cases i with
 | zero =>
  simp only[List.getElem?_cons_zero,Option.some.injEq]at hu
  subst hu
  have h:=hc j (by omega)
  have hp:zs.getD j 0=p:=by
   rw[List.getElem?_take]at hj
   simp only[hjl,if_true]at hj
   simp[List.getD,hj]
  rw[hp]at h
  simpa [Ty.size] using h
 | succ i=>simp at hu
theorem ZfV {q:TypeId} {t:Ty}:Rep (Zw w) w false (.sl q t) ([]:List t.den) [.slice none 0 0] No :=
 ⟨none,0,rfl,⟨Nat.le_refl _,Nat.zero_le _,fun h=>absurd h (by simp)⟩,fun _ _=>rfl⟩
theorem Zju {t e:TypeId} {k:IntKind} {fuel:Nat} {v:Value} {x:DataW H×List MemPlace} (ht:P.underlying t=some (.slice e)) (he:P.underlying e=some (.int k)) (hc:P.cellsOf e=1)
  (h:DataW.trod enc P w base (fun _=>true) held fuel t [v]=some x) (hn:nf e=false:=by rfl) :
  ∃l:List Int,l.length≤maxLen∧(∀x∈l,(Lit.int k x).wf=true)∧Rep (Zw w) w false (.sl e (.int k)) l [v] No:=by
 rcases open_ints ht he hc h with ⟨hcs,_⟩|⟨a,len,cap,zs,hcs,_,hl,hm,hz,_,hcell,hw⟩
 ·
  refine⟨[],by simp,by simp,?_⟩
  rw[hcs]
  exact ZfV
 ·
  simp only[if_true]at hz
  obtain⟨l,h1,h2,h3,h4⟩:=Zip (q:=e) hn hl hm hz hcell hw
  exact⟨l,h2,h3,by rw[hcs];exact h4⟩
theorem Zjv {t e q:TypeId} {k:IntKind} {fuel:Nat} {v:Value} {x:DataW H×List MemPlace} (ht:P.underlying t=some (.slice e)) (he:P.underlying e=some (.slice q)) (hq:P.underlying q=some (.int k))
  (ce:P.cellsOf e=1) (cq:P.cellsOf q=1) (h:DataW.trod enc P w base (fun _=>true) held fuel t [v]=some x) (hne:nf e=false:=by rfl) (hn:nf q=false:=by rfl) :
  ∃l:List (List Int),l.length≤maxLen∧(∀r∈l,r.length≤maxLen∧∀x∈r,(Lit.int k x).wf=true)∧Rep (Zw w) w false (.sl e (.sl q (.int k))) l [v] No:=by
 rcases open_int_rows ht he hq ce cq h with ⟨hcs,_⟩|⟨a,len,cap,A,L,C,Z,hcs,_,hl,hm,_,hr⟩
 ·
  refine⟨[],by simp,by simp,?_⟩
  rw[hcs]
  exact ZfV
 ·
  have each:∀r,r < cap→∃y:List Int,y.length≤maxLen∧(∀x∈y,(Lit.int k x).wf=true)∧Rep (Zw w) w false (.sl q (.int k)) y [.slice (A r) (L r) (C r)] No:=by
   intro r hrc
   obtain⟨_,h1,h2,h3,h4,h5,h6⟩:=hr r hrc
   cases hA:A r with
   | none =>
    have hC:=h5 hA
    refine⟨[],by simp,by simp,?_⟩
    have hL:L r=0:=by omega
    rw[hL,hC]
    exact ZfV
   | some a' =>
    obtain⟨l,_,h7,h8,h9⟩:=Zip (q:=q) hn h1 h2 h3 (fun i hi=>(h6 a' hA).2 i (by omega)) h4
    exact⟨l,h7,h8,h9⟩
  obtain⟨Y,hY⟩:=choose_lt each
  have hlen:((List.range len).map Y).length=len:=by simp
  refine⟨(List.range len).map Y,by omega,fun r hr' => ?_,?_⟩
  ·
   obtain⟨j,hj,rfl⟩:=List.mem_map.1 hr'
   obtain⟨h1,h2,_⟩:=hY j (by have:=List.mem_range.1 hj;omega)
   exact⟨h1,h2⟩
  ·
   rw[hcs]
   refine⟨some a,cap,by rw[hlen],?_,fun h=>by rw[hne]at h;cases h⟩
   refine ZiH Nat.one_pos (by show((List.range len).map Y).length≤_;omega) (by show((List.range len).map Y).length≤_;simp only[maxLen]at hm;omega) fun _=>⟨a,rfl,fun j p hj => ?_⟩
   have hj:((List.range len).map Y)[j]? = some p:=hj
   have hjl:j < len:=by
    have:=(List.getElem?_eq_some_iff.1 hj).1
    omega
   have hp:p=Y j:=by simpa [hjl] using hj.symm
   subst hp
   obtain⟨h1,h2,h3⟩:=hY j (by omega)
   refine⟨[.slice (A j) (L j) (C j)],rfl,h3,fun i u hu => ?_⟩
   cases i with
   | zero =>
    simp only[List.getElem?_cons_zero,Option.some.injEq]at hu
    subst hu
    have:=(hr j (by omega)).1
    simpa [Ty.size] using this
   | succ i=>simp at hu
theorem ZkE {t:TypeId} {k:IntKind} {fuel:Nat} {v:Value} {x:DataW H×List MemPlace} (ht:P.underlying t=some (.int k)) (h:DataW.trod enc P w base (fun _=>true) held fuel t [v]=some x):∃n:Int,(Lit.int k n).wf=true∧Rep (Zw w) w false (.int k) n [v] No:=by
 obtain⟨n,h1,_,h2⟩:=DataW.trod_int ht h
 exact⟨n,h2,h1⟩
theorem ZjT {r:Reach} {b0:Nat} {t:TypeId} {f0:Field} {v:Value} {d:DataW H} {p:List MemPlace} {spare:Nat→Bool} (hs:P.underlying t=some (.struct #[f0])) (hone:oneCellFields P #[f0]=true) (hC:P.cellsOf t=1)
  (hv:Value.okWide P w r b0 t v) (h:DataW.Trod enc P w base spare held t v d p) :
  ∃(v0:Value) (y0:DataW H×List MemPlace) (n:Nat),v = .agg #[v0]∧DataW.trod enc P w base spare held n f0.type [v0]=some y0:=by
 obtain⟨cs,rfl,hsz⟩:=okWide_struct hs hv
 have hsz1:cs.size=1:=hsz.trans hC
 obtain⟨c0,rfl⟩:∃c0,cs = #[c0]:=by
  obtain⟨l⟩:=cs
  match l,hsz1 with
  | [c0],_=>exact⟨c0,rfl⟩
 obtain⟨fuel,hf⟩:=h
 obtain⟨y0,n,hx,_,h0⟩:=trod_struct1 hs hf
 obtain⟨o0,k0⟩:=hone_of hone 0 f0 rfl
 exact⟨c0,y0,n,rfl,by simpa [Value.cells,o0,k0] using h0⟩
theorem Zky:ASRs P No (Zw w) w [] () [] No:=rfl
theorem Zkz {t:Ty} {x:t.den} {v:Value} {ins:List ASh} {y:lsd (flats ins)} {vs:List Value} (h:Rep (Zw w) w false t x [v] No) (hr:ASRs P No (Zw w) w ins y vs No):ASRs P No (Zw w) w (.one (.v t) :: ins) (x,y) (v :: vs) No :=
 ⟨v,vs,No,No,rfl,h,hr,fun _ h=>h,fun _ h=>h,fun _ h=>h.elim⟩
theorem Zjg {t:Ty} {x:t.den} {v:Value} {ins:List ASh} {y:lsd (flats ins)} {vs:List Value} (h:Rep (Zw w) w false t x [v] No) (hr:ASRs P No (Zw w) w ins y vs No):ASRs P No (Zw w) w (.agg [.v t] :: ins) (x,y) (.agg #[v] :: vs) No :=
 ⟨.agg #[v],vs,No,No,rfl,⟨[v],rfl,v,[],No,No,rfl,h,rfl,fun _ h=>h,fun _ h=>h,fun _ h=>h.elim⟩,hr,fun _ h=>h,fun _ h=>h,fun _ h=>h.elim⟩
theorem Zjh {t t' : Ty} {x:t.den} {x' : t'.den} {v v' : Value} {ins:List ASh} {y:lsd (flats ins)} {vs:List Value} (h:Rep (Zw w) w false t x [v] No) (h' : Rep (Zw w) w false t' x' [v'] No) (hr:ASRs P No (Zw w) w ins y vs No):ASRs P No (Zw w) w (.agg [.v t,.v t'] :: ins) (x,x', y) (.agg #[v,v'] :: vs) No :=
 ⟨.agg #[v,v'],vs,No,No,rfl,⟨[v,v'],rfl,v,[v'],No,No,rfl,h,⟨v', [],No,No,rfl,h', rfl,fun _ h=>h,fun _ h=>h,fun _ h=>h.elim⟩,fun _ h=>h,fun _ h=>h,fun _ h=>h.elim⟩,hr,fun _ h=>h,fun _ h=>h,fun _ h=>h.elim⟩
end
end Go.Proofs.Ytdamfbighdkcbaa.D
namespace Go.Proofs.Ytdamfbighdkcbaa.shut
theorem mayEnter:Try.pinned.checked.prog.mayEnter=true:=by kernel_rfl
theorem lifted:(Rows.fnExactOrderOfCohomologyRow.lifted == Try.pinned.checked.prog.liftsFinal)=true:=by kernel_rfl
theorem make:(Try.pinned.checked.prog.make == some Rows.fnExactOrderOfCohomologyRow.make)=true:=by kernel_rfl
end Go.Proofs.Ytdamfbighdkcbaa.shut
