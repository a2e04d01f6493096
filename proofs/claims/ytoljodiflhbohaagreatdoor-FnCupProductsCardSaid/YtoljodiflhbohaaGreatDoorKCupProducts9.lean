/- What the proof of the law CupProducts stands on, part 9: words, each Go function's Lean function, and that the Go code comes to its answers; no condition. (Packed by wip/myprint/pack.py out of what the kit's printer wrote, its words among it, partly by our patches of it, and out of texts of this session.) -/
import Derived.Test.YtoljodiflhbohaaGreatDoorRows
import Derived.WalkKit
import Derived.ProofKit
import Derived.KernelRfl
import Derived.Test.YtoljodiflhbohaaGreatDoorKCupProducts3
import Derived.Test.YtoljodiflhbohaaGreatDoorKCupProducts4
import Derived.Test.YtoljodiflhbohaaGreatDoorKCupProducts5
import Derived.Test.YtoljodiflhbohaaGreatDoorKCupProducts7
import Derived.Test.YtoljodiflhbohaaGreatDoorKCupProducts8
set_option linter.unusedVariables false
set_option linter.unusedSimpArgs false
set_option maxHeartbeats 2000000
set_option maxRecDepth 20000
namespace Go.Proofs.YtoljodiflhbohaaGreatDoor.V
open Go.RowKit Go.Proofs.YtoljodiflhbohaaGreatDoor.D Go.Proofs.YtoljodiflhbohaaGreatDoor.P
theorem ZiX {xs:List Int} (C:Int→Int) {j:Nat} (h:j < xs.length):((xs.take j).map C++xs.drop j).set j (C (rd xs (j:Int)))=(xs.take (j+1)).map C++xs.drop (j+1):=by
 have hl:((xs.take j).map C).length=j:=by rw[List.length_map,List.length_take];omega
 rw[List.set_append,if_neg (by omega),hl,Nat.sub_self,Zi0 h,List.set_cons_zero,ZcR h,List.map_append]
 simp
theorem ZkU {xs:List Int} (C:Int→Int) {j:Nat} (h:j < xs.length):rd ((xs.take j).map C++xs.drop j) (j:Int)=rd xs (j:Int):=by
 have hl:((xs.take j).map C).length=j:=by rw[List.length_map,List.length_take];omega
 simp[rd,List.getD_eq_getElem?_getD,List.getElem?_append,hl,Nat.min_eq_left (Nat.le_of_lt h)]
noncomputable def mvV (g:List (List Int)) (u v:List Int) (x:Int) (C:Int→Int) (n i:Nat):Int:=rd u x*At g v ((lst ((g.length:Int) - 1) n (i:Int)).map C)
theorem Move_ {g:List (List Int)} (hg:Grp g) {m x b:Int} {u v:List Int} {n:Nat} (hm:Mdl g m u) (hc:Co g m n v) (x0:0≤x) (x1:x < g.length) (hi:ZU.f g x=some b) {C:Int→Int}
  (hC:∀y:Int,0≤y→y < g.length→(0≤C y∧C y < g.length)∧ZT.f g b y=some (C y)∧Zas.f g y b=some (C y)) :
  Zag.f g m u n v x=some ((n:Int),(List.range (cells g n).toNat).map fun i=>mvV g u v x C n i%m):=by
 have hlu:=hm.len;have m2:=hm.m2;have m12:=hm.m12;have n8:=hg.n8
 obtain⟨d0,d1⟩:=hc.1
 have hb:=ZbA hg (d:=(n:Int)) (by omega)
 have hCl:=Zft hg (d:=(n:Int)) (by omega) (by omega)
 rw[Zag.f_eq,hi,Option.bind_some]
 have:=up (cells g n).toNat (fun i=>Zag.l0 x b (i:Int) g m u n v 0 n ((List.range i).map fun i=>mvV g u v x C n i%m)) (fun i hi=>by
  obtain⟨hx,_⟩:=Zb7 hg (n:=n) (i:=i) (by omega)
  have hll:=ZbE ((g.length:Int) - 1) n i
  have hL:=(Zdl hg (n:=n) (i:=i) (by omega) (by omega)).2
  obtain⟨xs,hxs⟩:∃xs,xs=lst ((g.length:Int) - 1) n i:=⟨_,rfl⟩
  rw[←hxs]at hx hll hL
  have hy:=ZkG hx fun y y0 y1=>(hC y y0 y1).1
  have ha:=At_bd hg (by omega) hc hy (by rw[List.length_map];omega)
  obtain⟨c0,c1⟩:=ZdC hm x0 x1 ha.1 ha.2
  have hat:=At_ (u:=u) hg hc hy (by rw[List.length_map];omega)
  have hmod:=Mod_ (a:=rd u x*At g v (xs.map C)) (m:=m) (by omega) (by omega) (by omega) (by omega)
  have inner:=up xs.length (fun j=>Zag.l1 x b i (j:Int) g m u n v 0 n ((xs.take j).map C++xs.drop j) ((List.range i).map fun i=>mvV g u v x C n i%m)) (fun j hj=>by
   obtain⟨a0,a1⟩:=hx j (by omega) (by omega)
   have hcj:=(hC _ a0 a1).2.2
   have l1:((xs.take j).map C++xs.drop j).length=xs.length:=by rw[List.length_append,List.length_map,List.length_take,List.length_drop];omega
   rw[←ZiX C hj,Zag.l1_eq,ZkU C hj,wn (j:=j) (by omega),Int.toNat_natCast]
   ((with_reducible repeat (first|refine Zj (by first|assumption|omega|rfl|exact B_pos (by omega)) ?_|refine Zi (by first|assumption|omega|decide|exact B_not (by omega)) ?_|refine Ze (by first|assumption) ?_|dsimp only));first|done|(with_reducible rfl)|simp (disch:=omega) only[w64]|(show False;done)))
  simp only[Int.natCast_zero,List.take_zero,List.map_nil,List.drop_zero,List.nil_append,List.take_length,List.drop_length,List.append_nil]at inner
  have l2:((List.range i).map fun i=>mvV g u v x C n i%m).length=i:=by rw[List.length_map,List.length_range]
  have l3:∀y:Int,([y]:List Int).length=1:=fun _=>rfl
  have l4:(xs.map C).length=xs.length:=List.length_map ..
  have e:(List.range (i+1)).map (fun i=>mvV g u v x C n i%m)=((List.range i).map fun i=>mvV g u v x C n i%m)++[(rd u x*At g v (xs.map C))%m]:=by rw[List.range_succ,List.map_append,List.map_singleton,show mvV g u v x C n i=rd u x*At g v (xs.map C)by rw[hxs];rfl]
  rw[e,Zag.l0_eq,hCl,Option.bind_some]
  (with_reducible repeat (first|refine Zj (by first|assumption|omega|rfl|exact B_pos (by omega)) ?_|refine Zi (by first|assumption|omega|decide|exact B_not (by omega)) ?_|refine Ze (by first|assumption) ?_|dsimp only))
  rw[inner,Zag.l1_eq,hat,Option.bind_some,w64 (x:=rd u x*At g v (xs.map C)) (by omega) (by omega),hmod,Option.bind_some,l2,l3,wn (j:=i) (by omega)]
  ((with_reducible repeat (first|refine Zj (by first|assumption|omega|rfl|exact B_pos (by omega)) ?_|refine Zi (by first|assumption|omega|decide|exact B_not (by omega)) ?_|refine Ze (by first|assumption) ?_|dsimp only));first|done|(with_reducible rfl)|simp (disch:=omega) only[w64]|(show False;done)))
 simp only[Int.natCast_zero,List.range_zero,List.map_nil]at this
 rw[this,Zag.l0_eq,hCl,Option.bind_some]
 ((with_reducible repeat (first|refine Zj (by first|assumption|omega|rfl|exact B_pos (by omega)) ?_|refine Zi (by first|assumption|omega|decide|exact B_not (by omega)) ?_|refine Ze (by first|assumption) ?_|dsimp only));first|done|(with_reducible rfl)|simp (disch:=omega) only[w64]|(show False;done))
def cjF (g:List (List Int)) (b x:Int) (y:Int):Int:=T g (T g b y) x
noncomputable def mvL (g:List (List Int)) (m:Int) (u v:List Int) (x b:Int) (n:Nat):List Int:=(List.range (cells g (n:Int)).toNat).map fun i=>mvV g u v x (cjF g b x) n i%m
theorem ZhW {g:List (List Int)} (hg:Grp g) {x b:Int} (x0:0≤x) (x1:x < g.length) (b0:0≤b) (b1:b < g.length) (h:T g x b=0):T g b x=0:=by
 obtain⟨c,c0,c1,h1,h2⟩:=hg.inv2 x0 x1
 have h3:=hg.assoc c x b c0 c1 x0 x1 b0 b1
 rw[h,h2,hg.one b b0 b1,hg.one' c c0 c1]at h3
 rw[h3];exact h2
theorem Zja {g:List (List Int)} (hg:Grp g) {x b c:Int} (x0:0≤x) (x1:x < g.length) (b0:0≤b) (b1:b < g.length) (c0:0≤c) (c1:c < g.length) (h:T g x b=0) (k:T g x c=0):b=c:=by
 have h2:=ZhW hg x0 x1 b0 b1 h
 have h3:=hg.assoc b x c b0 b1 x0 x1 c0 c1
 rw[k,h2,hg.one c c0 c1,hg.one' b b0 b1]at h3
 exact h3.symm
theorem Zj1 {g:List (List Int)} (hg:Grp g) {x b:Int} (x0:0≤x) (x1:x < g.length) (b0:0≤b) (b1:b < g.length) (h:T g b x=0) :
  ∀y:Int,0≤y→y < g.length→(0≤cjF g b x y∧cjF g b x y < g.length)∧ZT.f g b y=some (cjF g b x y)∧Zas.f g y b=some (cjF g b x y):=fun y y0 y1=>by
 obtain⟨C,hC⟩:=ZkT hg b0 b1
 obtain⟨c,c0,c1,hc,eI,eS⟩:=Zi9 hg b0 b1
 have e:=Zja hg b0 b1 c0 c1 x0 x1 hc h
 rw[e]at eI
 obtain⟨q1,q2,q3⟩:=hC y y0 y1
 have ht:=times hg [b,y,x] (ZcC b0 b1 y0 y1 x0 x1) (Zbu (by simp))
 have e:[b,y,x].foldl (T g) 0=T g (T g b y) x:=by
  show T g (T g (T g 0 b) y) x=_
  rw[hg.one b b0 b1]
 rw[e]at ht
 have e2:ZT.f g b y=some (T g (T g b y) x):=by
  rw[ZT.f_eq,eI,Option.bind_some,ht,Option.bind_some]
 rw[e2]at q2
 have e3:C y=cjF g b x y:=(Option.some.inj q2).symm
 rw[←e3]
 exact⟨q1,by rw[e2,q2],q3⟩
theorem Zde (g:List (List Int)) (m:Int) (u:List Int) (d:Int) (v:List Int) (x:Int) (hl:g.length≤maxLen) (hr:∀r∈g,r.length≤maxLen) (hu:u.length≤maxLen) (hv:v.length≤maxLen) :
  ∃(a:Int) (R:List Int) (c:Int),ZO.f g m u d v x=some (a,R,c)∧Zav.f g m u d v x=some (a,R,c)∧R.length≤1048576∧(c=0→Grp g∧Mdl g m u∧∃(n:Nat) (b:Int),Co g m n v∧d=n∧(0≤x∧x < g.length)∧(0≤b∧b < g.length)∧T g x b=0∧T g b x=0∧ZS.f g x=some b∧a=n∧R=mvL g m u v x b n)∧(Grp g→Mdl g m u→Co g m d v→0≤x→x < g.length→c=0):=by
 rcases co_codes g hl hr m u hu d v hv with ⟨hg,hm,hc,cI,cS⟩|⟨hno,cI,cS⟩
 rotate_left
 ·
  refine⟨0,[],1,?_,?_,by simp,fun q=>absurd q (by decide),fun a b e _ _=>absurd ⟨a,b,e⟩ hno⟩
  ·
   rw[ZO.f_eq]
   (with_reducible repeat (first|refine Zj (by first|assumption|omega|rfl|exact B_pos (by omega)) ?_|refine Zi (by first|assumption|omega|decide|exact B_not (by omega)) ?_|refine Ze (by first|assumption) ?_|dsimp only))
   rw[ZO.j0_eq]
   ((with_reducible repeat (first|refine Zj (by first|assumption|omega|rfl|exact B_pos (by omega)) ?_|refine Zi (by first|assumption|omega|decide|exact B_not (by omega)) ?_|refine Ze (by first|assumption) ?_|dsimp only));first|done|(with_reducible rfl)|simp (disch:=omega) only[w64]|(show False;done))
  ·
   rw[Zav.f_eq]
   ((with_reducible repeat (first|refine Zj (by first|assumption|omega|rfl|exact B_pos (by omega)) ?_|refine Zi (by first|assumption|omega|decide|exact B_not (by omega)) ?_|refine Ze (by first|assumption) ?_|dsimp only));first|done|(with_reducible rfl)|simp (disch:=omega) only[w64]|(show False;done))
 have m2:=hm.m2;have m12:=hm.m12;have n8:=hg.n8;have hlu:=hm.len
 have hE:=elements hg (xs:=[x]) (Zbu (by simp))
 have hA:=areIn (g.length:Int) [x] (Zbu (by simp))
 by_cases h:AllIn g.length [x]
 rotate_left
 ·
  rw[ZbN h]at hE
  refine⟨0,[],2,?_,?_,by simp,fun q=>absurd q (by decide),fun _ _ _ a b=>absurd (ZdT.2 ⟨a,b⟩) h⟩
  ·
   rw[ZO.f_eq]
   (with_reducible repeat (first|refine Zj (by first|assumption|omega|rfl|exact B_pos (by omega)) ?_|refine Zi (by first|assumption|omega|decide|exact B_not (by omega)) ?_|refine Ze (by first|assumption) ?_|dsimp only))
   rw[ZO.j0_eq]
   ((with_reducible repeat (first|refine Zj (by first|assumption|omega|rfl|exact B_pos (by omega)) ?_|refine Zi (by first|assumption|omega|decide|exact B_not (by omega)) ?_|refine Ze (by first|assumption) ?_|dsimp only));first|done|(with_reducible rfl)|simp (disch:=omega) only[w64]|(show False;done))
  ·
   rw[Zav.f_eq,ZX.f_eq,Option.bind_some]
   rw[B_neg h]at hA
   ((with_reducible repeat (first|refine Zj (by first|assumption|omega|rfl|exact B_pos (by omega)) ?_|refine Zi (by first|assumption|omega|decide|exact B_not (by omega)) ?_|refine Ze (by first|assumption) ?_|dsimp only));first|done|(with_reducible rfl)|simp (disch:=omega) only[w64]|(show False;done))
 obtain⟨x0,x1⟩:=ZdT.1 h
 rw[ZbK h]at hE
 rw[B_pos h]at hA
 obtain⟨b,b0,b1,hxb,eI,eS⟩:=Zi9 hg x0 x1
 obtain⟨C,hCd⟩:∃C,C=cjF g b x:=⟨_,rfl⟩
 have hbx:=ZhW hg x0 x1 b0 b1 hxb
 have hC:=Zj1 hg x0 x1 b0 b1 hbx
 rw[←hCd]at hC
 obtain⟨n,rfl⟩:=Int.eq_ofNat_of_zero_le hc.1.1
 have n3:n≤3:=by have:=hc.1.2;omega
 have hb:=ZbA hg (d:=(n:Int)) (by omega)
 have hM:=Move_ hg hm hc x0 x1 eS hC
 have hT:=told hg m2 m12 (n:=n) (by omega) (F:=fun z0=>(Zam.f z0 m u x n v g b).map fun z=>z) (G:=mvV g u v x C n) (fun i hi=>by
  obtain⟨hx,_⟩:=Zb7 hg (n:=n) (i:=i) (by omega)
  have hll:=ZbE ((g.length:Int) - 1) n i
  have hy:=ZkG hx fun y y0 y1=>(hC y y0 y1).1
  have ha:=At_bd hg (by omega) hc hy (by rw[List.length_map];omega)
  obtain⟨c0,c1⟩:=ZdC hm x0 x1 ha.1 ha.2
  have hat:=at_ hg hc hy (by rw[List.length_map];omega)
  have hmp:=mapped (F:=fun z0=>(Z6.f z0 g b).map fun z=>z) (G:=C) (lst ((g.length:Int) - 1) n i) (by omega) (fun y hy=>by
   obtain⟨y0,y1⟩:=hx.mem hy
   show Option.map _ (Z6.f y g b)=_
   rw[Z6.f_eq,(hC y y0 y1).2.1]
   rfl)
  have e:Zam.f (lst ((g.length:Int) - 1) n i) m u x n v g b=some (mvV g u v x C n i):=by
   rw[Zam.f_eq,show mvV g u v x C n i=rd u x*At g v ((lst ((g.length:Int) - 1) n i).map C)from rfl]
   ((with_reducible repeat (first|refine Zj (by first|assumption|omega|rfl|exact B_pos (by omega)) ?_|refine Zi (by first|assumption|omega|decide|exact B_not (by omega)) ?_|refine Ze (by first|assumption) ?_|dsimp only));first|done|(with_reducible rfl)|simp (disch:=omega) only[w64]|(show False;done))
  show Option.map _ (Zam.f _ m u x n v g b)=_
  rw[e]
  rfl)
 refine⟨(n:Int),(List.range (cells g n).toNat).map fun i=>mvV g u v x C n i%m,0,?_,?_,by rw[List.length_map,List.length_range];omega,fun _=>⟨hg,hm,n,b,hc,rfl,⟨x0,x1⟩,⟨b0,b1⟩,hxb,hbx,eI,rfl,by rw[hCd];rfl⟩,fun _ _ _ _ _=>rfl⟩
 ·
  rw[ZO.f_eq]
  (with_reducible repeat (first|refine Zj (by first|assumption|omega|rfl|exact B_pos (by omega)) ?_|refine Zi (by first|assumption|omega|decide|exact B_not (by omega)) ?_|refine Ze (by first|assumption) ?_|dsimp only))
  rw[ZO.j0_eq]
  ((with_reducible repeat (first|refine Zj (by first|assumption|omega|rfl|exact B_pos (by omega)) ?_|refine Zi (by first|assumption|omega|decide|exact B_not (by omega)) ?_|refine Ze (by first|assumption) ?_|dsimp only));first|done|(with_reducible rfl)|simp (disch:=omega) only[w64]|(show False;done))
 ·
  rw[Zav.f_eq,ZX.f_eq,Option.bind_some]
  ((with_reducible repeat (first|refine Zj (by first|assumption|omega|rfl|exact B_pos (by omega)) ?_|refine Zi (by first|assumption|omega|decide|exact B_not (by omega)) ?_|refine Ze (by first|assumption) ?_|dsimp only));first|done|(with_reducible rfl)|simp (disch:=omega) only[w64]|(show False;done))
end Go.Proofs.YtoljodiflhbohaaGreatDoor.V
set_option linter.unusedSectionVars false
set_option maxHeartbeats 4000000
namespace Go.Proofs.YtoljodiflhbohaaGreatDoor.V
open Go.RowKit Go.Proofs.YtoljodiflhbohaaGreatDoor.D Go.Proofs.YtoljodiflhbohaaGreatDoor.P
theorem cj_in {g:List (List Int)} (hg:Grp g) {b:Int} {x:Int} (x0:0≤x) (x1:x < g.length) (b0:0≤b) (b1:b < g.length) (hxb:T g x b=0) (hbx:T g b x=0) {y:Int} (y0:0≤y) (y1:y < g.length):0≤cjF g b x y∧cjF g b x y < g.length:=by
 obtain⟨c0,c1⟩:=hg.ent b y b0 b1 y0 y1
 exact hg.ent _ x c0 c1 x0 x1
theorem Zlt {g:List (List Int)} (hg:Grp g) {b:Int} {x:Int} (x0:0≤x) (x1:x < g.length) (b0:0≤b) (b1:b < g.length) (hxb:T g x b=0) (hbx:T g b x=0) {y z:Int} (y0:0≤y) (y1:y < g.length) (z0:0≤z) (z1:z < g.length):cjF g b x (T g y z)=T g (cjF g b x y) (cjF g b x z):=by
 obtain⟨c0,c1⟩:=hg.ent b y b0 b1 y0 y1
 obtain⟨d0,d1⟩:=hg.ent b z b0 b1 z0 z1
 obtain⟨e0,e1⟩:=hg.ent _ x d0 d1 x0 x1
 unfold cjF
 rw[hg.assoc (T g b y) x _ c0 c1 x0 x1 e0 e1,←hg.assoc x (T g b z) x x0 x1 d0 d1 x0 x1,←hg.assoc x b z x0 x1 b0 b1 z0 z1,hxb,hg.one z z0 z1,←hg.assoc (T g b y) z x c0 c1 z0 z1 x0 x1,←hg.assoc b y z b0 b1 y0 y1 z0 z1]
theorem ZiT {g:List (List Int)} (hg:Grp g) {b:Int} {x:Int} (x0:0≤x) (x1:x < g.length) (b0:0≤b) (b1:b < g.length) (hxb:T g x b=0) (hbx:T g b x=0):cjF g b x 0=0:=by
 unfold cjF
 rw[hg.one' b b0 b1,hbx]
theorem ZiS {g:List (List Int)} (hg:Grp g) {b:Int} {x:Int} (x0:0≤x) (x1:x < g.length) (b0:0≤b) (b1:b < g.length) (hxb:T g x b=0) (hbx:T g b x=0) {y:Int} (y0:0≤y) (y1:y < g.length):cjF g b x (cjF g x b y)=y:=by
 obtain⟨c0,c1⟩:=hg.ent x y x0 x1 y0 y1
 unfold cjF
 rw[←hg.assoc b (T g x y) b b0 b1 c0 c1 b0 b1,←hg.assoc b x y b0 b1 x0 x1 y0 y1,hbx,hg.one y y0 y1,hg.assoc y b x y0 y1 b0 b1 x0 x1,hbx,hg.one' y y0 y1]
theorem Zkz {g:List (List Int)} (hg:Grp g) {b:Int} {x:Int} (x0:0≤x) (x1:x < g.length) (b0:0≤b) (b1:b < g.length) (hxb:T g x b=0) (hbx:T g b x=0) {xs:List Int} (hx:AllIn g.length xs):AllIn g.length (xs.map (cjF g b x)):=ZbU fun y hy=>by
 obtain⟨z,hz,rfl⟩:=List.mem_map.1 hy
 obtain⟨z0,z1⟩:=hx.mem hz
 exact cj_in hg x0 x1 b0 b1 hxb hbx z0 z1
theorem cj_mm {g:List (List Int)} (hg:Grp g) {b:Int} {x:Int} (x0:0≤x) (x1:x < g.length) (b0:0≤b) (b1:b < g.length) (hxb:T g x b=0) (hbx:T g b x=0) {xs:List Int} (hx:AllIn g.length xs):(xs.map (cjF g x b)).map (cjF g b x)=xs:=by
 rw[List.map_map]
 refine(List.map_congr_left fun y hy => ?_).trans (List.map_id xs)
 obtain⟨y0,y1⟩:=hx.mem hy
 exact ZiS hg x0 x1 b0 b1 hxb hbx y0 y1
theorem cj_nu {g:List (List Int)} (hg:Grp g) {b:Int} {x:Int} (x0:0≤x) (x1:x < g.length) (b0:0≤b) (b1:b < g.length) (hxb:T g x b=0) (hbx:T g b x=0) {xs:List Int} (hx:AllIn g.length xs) (h:ZbG xs):ZbG (xs.map (cjF g b x)):=nu_of fun y hy e=>by
 obtain⟨z,hz,rfl⟩:=List.mem_map.1 hy
 obtain⟨z0,z1⟩:=hx.mem hz
 have h1:=ZiS (g:=g) (b:=x) (x:=b) hg b0 b1 x0 x1 hbx hxb z0 z1
 rw[e,ZiT (g:=g) (b:=x) (x:=b) hg b0 b1 x0 x1 hbx hxb]at h1
 exact un_of (h1 ▸ hz) h
theorem Zlk {g:List (List Int)} (hg:Grp g) {v:List Int} {n i:Nat} (hn:n≤4) (hi:(i:Int) < cells g (n:Int)):At g v (lst ((g.length:Int) - 1) n (i:Int))=rd v (i:Int):=by
 obtain⟨hx,hnu⟩:=Zb7 hg (n:=n) (i:=i) hi
 have h2:=cells_two hg (n:=n) (by omega)
 unfold At
 rw[ZbK hnu,ZkZ n (i:Int) (by omega) hi h2]
theorem ZhM {g:List (List Int)} (hg:Grp g) {m:Int} {u v:List Int} {d:Nat} (hd:d≤3):Cocy g m u v d↔∀xs,AllIn g.length xs→xs.length=d+1→ZbG xs→Bd g u v xs d%m=0:=by
 have hb:=ZbA hg (d:=((d+1:Nat):Int)) (by omega)
 refine⟨fun h xs hx hl hn => ?_,fun h i i0 i1 => ?_⟩
 ·
  have hi:=ZhT hg hx xs.length (Nat.le_refl _) (fun j j0 j1=>hn j j0 (by omega))
  rw[List.take_length,hl]at hi
  have e:cells g ((d+1:Nat):Int)=((g.length:Int) - 1) ^ (d+1):=rfl
  have:=h (idx g xs) hi.1 (by omega)
  unfold bdV at this
  rw[Int.toNat_of_nonneg hi.1,Zjg (d+1) xs hl fun x hx' => by
   obtain⟨j,hj,e⟩:=List.mem_iff_getElem.1 hx'
   obtain⟨a0,a1⟩:=hx.mem hx'
   have:=hn (j:Int) (by omega) (by omega)
   rw[ZbW hj,e]at this
   omega]at this
  exact this
 ·
  obtain⟨hx,hnu⟩:=Zb7 hg (n:=d+1) (i:=i.toNat) (by omega)
  exact h _ hx (ZbE _ _ _) hnu
theorem Zh9 {g:List (List Int)} (hg:Grp g) {m:Int} {u:List Int} (hm:Mdl g m u) {b:Int} {x:Int} (x0:0≤x) (x1:x < g.length) (b0:0≤b) (b1:b < g.length) (hxb:T g x b=0) (hbx:T g b x=0):cg m (rd u b*rd u x) 1:=by
 have m2:=hm.m2;have hl:=hm.len
 have h:=hm.hom b b0 (by omega) x x0 (by omega)
 rw[hbx,hm.one hg]at h
 exact cg_of (by rw[←h,Int.emod_eq_of_lt (by omega) (by omega)])
theorem At_mv {g:List (List Int)} (hg:Grp g) {m:Int} {u:List Int} {v:List Int} (hm:Mdl g m u) {b:Int} {x:Int} (x0:0≤x) (x1:x < g.length) (b0:0≤b) (b1:b < g.length) (hxb:T g x b=0) (hbx:T g b x=0) {n:Nat} (hn:n≤3) {l:List Int} (hl:AllIn g.length l) (hll:l.length=n):At g (mvL g m u v x b n) l=ite_ (ZbG l) (rd u x*At g v (l.map (cjF g b x))%m) 0 :=
 At_tl hg (by omega) (fun xs=>rd u x*At g v (xs.map (cjF g b x))%m) hl hll
theorem mv_co {g:List (List Int)} (hg:Grp g) {m:Int} {u:List Int} {v:List Int} (hm:Mdl g m u) {b:Int} {x:Int} (x0:0≤x) (x1:x < g.length) (b0:0≤b) (b1:b < g.length) (hxb:T g x b=0) (hbx:T g b x=0) {n:Nat} (hn:n≤3):Co g m n (mvL g m u v x b n):=ZjP hg hm.m2 hn (mvV g u v x (cjF g b x) n)
theorem mv_bd {g:List (List Int)} (hg:Grp g) {m:Int} {u:List Int} {v:List Int} (hm:Mdl g m u) {b:Int} {x:Int} (x0:0≤x) (x1:x < g.length) (b0:0≤b) (b1:b < g.length) (hxb:T g x b=0) (hbx:T g b x=0) {n:Nat} (hn:n≤3) {xs:List Int} (hx:AllIn g.length xs) (hll:xs.length=n+1):cg m (Bd g u (mvL g m u v x b n) xs n) (rd u x*Bd g u v (xs.map (cjF g b x)) n):=by
 rw[Bd_eq,Bd_eq]
 refine Ziy hg hx hll (fun y z y0 y1 z0 z1=>Zlt hg x0 x1 b0 b1 hxb hbx y0 y1 z0 z1) (fun l hl hl' => ?_) (fun y y0 y1 => ?_)
 ·
  rw[At_mv hg hm x0 x1 b0 b1 hxb hbx hn hl hl']
  by_cases q:ZbG l
  ·
   rw[ZbK q];exact Zbz _ _
  ·
   have h0:(0:Int)∈l.map (cjF g b x):=List.mem_map.2 ⟨0,ZjQ q,ZiT hg x0 x1 b0 b1 hxb hbx⟩
   rw[ZbN q,At_z h0,Int.mul_zero];exact Zbo _ _
 ·
  have hlu:=hm.len
  obtain⟨t0,t1⟩:=hg.ent b y b0 b1 y0 y1
  have e:cg m (rd u (cjF g b x y)) (rd u b*rd u y*rd u x):=by
   unfold cjF
   rw[hm.hom _ t0 (by omega) x x0 (by omega),hm.hom b b0 (by omega) y y0 (by omega)]
   exact(Zbz _ _).trans (Zbt (Zbz _ _) (Zbo _ _))
  refine cg.symm ((Zbt (Zbo m (rd u x)) e).trans ((Zb6 (by grind:_=(rd u b*rd u x)*(rd u y*rd u x))).trans ((Zbt (Zh9 hg hm x0 x1 b0 b1 hxb hbx) (Zbo _ _)).trans (Zb6 ?_))))
  rw[Int.one_mul]
theorem Zjm {g:List (List Int)} (hg:Grp g) {m:Int} {u:List Int} {v:List Int} (hm:Mdl g m u) {b:Int} {x:Int} (x0:0≤x) (x1:x < g.length) (b0:0≤b) (b1:b < g.length) (hxb:T g x b=0) (hbx:T g b x=0) {n:Nat} (hn:n≤3) (h:Cocy g m u v n):Cocy g m u (mvL g m u v x b n) n:=by
 refine(ZhM hg hn).2 fun xs hx hl hnu => ?_
 have h1:=(ZhM hg hn).1 h (xs.map (cjF g b x)) (Zkz hg x0 x1 b0 b1 hxb hbx hx) (by rw[List.length_map];exact hl) (cj_nu hg x0 x1 b0 b1 hxb hbx hx hnu)
 rw[cg_eq (mv_bd hg hm x0 x1 b0 b1 hxb hbx hn hx hl),Int.mul_emod,h1,Int.mul_zero,Int.zero_emod]
theorem Zjl {g:List (List Int)} (hg:Grp g) {m:Int} {u:List Int} {v:List Int} (hm:Mdl g m u) {b:Int} {x:Int} (x0:0≤x) (x1:x < g.length) (b0:0≤b) (b1:b < g.length) (hxb:T g x b=0) (hbx:T g b x=0) {n:Nat} (hc:Co g m n v):mvL g m u (mvL g m u v x b n) b x n=v:=by
 have n3:=hc.1.2
 have hn:n≤3:=by omega
 have hb:=ZbA hg (d:=(n:Int)) (by omega)
 have hv:=hc.2.1
 refine Zi3 (by simp[mvL];omega) fun i i0 i1 => ?_
 obtain⟨k,rfl⟩:=Int.eq_ofNat_of_zero_le i0
 have hk:(k:Int) < cells g (n:Int):=by simp only[mvL,List.length_map,List.length_range]at i1;omega
 obtain⟨hx,hnu⟩:=Zb7 hg (n:=n) (i:=k) hk
 have hll:=ZbE ((g.length:Int) - 1) n (k:Int)
 have e:rd (mvL g m u (mvL g m u v x b n) b x n) (k:Int)=rd u b*At g (mvL g m u v x b n) ((lst ((g.length:Int) - 1) n (k:Int)).map (cjF g x b))%m:=by
  rw[ZbW (by omega)]
  simp[mvL,mvV]
 rw[e,At_mv hg hm x0 x1 b0 b1 hxb hbx hn (Zkz hg b0 b1 x0 x1 hbx hxb hx) (by rw[List.length_map];exact hll),ZbK (cj_nu hg b0 b1 x0 x1 hbx hxb hx hnu),cj_mm hg x0 x1 b0 b1 hxb hbx hx,Zlk hg (by omega) hk]
 obtain⟨v0,v1⟩:=hc.2.2 (k:Int) (by omega) (by omega)
 refine Zke ((Zbt (Zbo m (rd u b)) (Zbz _ _)).trans ((Zb6 (by grind:_=(rd u b*rd u x)*rd v (k:Int))).trans ((Zbt (Zh9 hg hm x0 x1 b0 b1 hxb hbx) (Zbo _ _)).trans (Zb6 ?_)))) v0 v1
 rw[Int.one_mul]
theorem Ze0 {g:List (List Int)} (hg:Grp g) {m:Int} {u v:List Int} (hm:Mdl g m u) {n:Nat} (hc:Co g m n v):ZaW.f g m u n v=some (B (Cocy g m u v n),0):=by
 obtain⟨hl,hr⟩:=ZkC hg
 rcases co_codes g hl hr m u (ZdJ hg hm) n v (co_mx hg hc)with ⟨_,_,_,cI,cS⟩|⟨k,_⟩
 rotate_left
 ·
  exact absurd ⟨hg,hm,hc⟩ k
 rw[ZaW.f_eq,cI,Option.bind_some,if_pos rfl,Zjb hg hm hc,Option.bind_some]
 simp
theorem Zkf {c:List Int} {g:List (List Int)} {m:Int} {u:List Int} {d:Int} {v:List Int} {x:Int} (hl:g.length≤maxLen) (hr:∀r∈g,r.length≤maxLen) (hu:u.length≤maxLen) (hv:v.length≤maxLen)
  (hD:Z7.f c=some (g,m,u,d,v,x)):Zd.j2 c=Zd.j3 c:=by
 obtain⟨a,R,e,h1,h2,h3,h5,h6⟩:=Zde g m u d v x hl hr hu hv
 rw[Zd.j2_eq,hD,Option.bind_some]
 dsimp only
 rw[h2,Option.bind_some,h1,Option.bind_some]
 dsimp only
 rw[if_pos rfl,likeC a R h3,Option.bind_some,if_pos rfl]
 by_cases he:e=0
 rotate_left
 ·
  rw[if_neg he]
 obtain⟨hg,hm,n,b,hc,rfl,⟨x0,x1⟩,⟨b0,b1⟩,hxb,hbx,hI,rfl,eR⟩:=h5 he
 have n3:=hc.1.2
 have hn:n≤3:=by omega
 have hR:Co g m n R:=by rw[eR];exact mv_co hg hm x0 x1 b0 b1 hxb hbx hn
 obtain⟨a', R', e', k1,k2,k3,k5,k6⟩:=Zde g m u (n:Int) R b hl hr hu (co_mx hg hR)
 have he' := k6 hg hm hR b0 b1
 obtain⟨_,_,n', x', _,en,_,⟨y0,y1⟩,hby,_,_,rfl,eR'⟩:=k5 he'
 have en:n=n' := by omega
 subst en
 have ex:=Zja hg b0 b1 x0 x1 y0 y1 hbx hby
 subst ex
 have eR' : R' = v:=by rw[eR', eR];exact Zjl hg hm x0 x1 b0 b1 hxb hbx hc
 have t1:=Ze0 hg hm hc
 have t2:=Ze0 hg hm hR
 have t3:=ZjA hg x0 x1 b0 b1 hI hl hr
 have eq:B (Cocy g m u v n)=B (Cocy g m u R n):=by
  by_cases q:Cocy g m u v n
  ·
   rw[B_pos q,B_pos (by rw[eR];exact Zjm hg hm x0 x1 b0 b1 hxb hbx hn q)]
  ·
   rw[B_neg q,B_neg fun k=>q ?_]
   have:=Zjm hg hm b0 b1 x0 x1 hbx hxb hn k
   rw[eR,Zjl hg hm x0 x1 b0 b1 hxb hbx hc]at this
   exact this
 rw[if_pos he,t1,Option.bind_some,t2,Option.bind_some,t3,Option.bind_some]
 dsimp only
 rw[k2,Option.bind_some]
 dsimp only
 have lk:=likeC (n:Int) v (by have:=ZdH hg hc;omega)
 rw[if_pos rfl,if_pos rfl,if_pos rfl,if_pos he', eq,if_pos rfl,eR', lk,Option.bind_some,if_pos rfl]
end Go.Proofs.YtoljodiflhbohaaGreatDoor.V
namespace Go.Proofs.YtoljodiflhbohaaGreatDoor.V
open Go Go.RowKit Go.Proofs.YtoljodiflhbohaaGreatDoor.D Go.Proofs.YtoljodiflhbohaaGreatDoor.P
def GoP (g:List (List Int)) (m:Int) (us:List Int):Prop:=∀x:Int,0≤x→x < us.length→∀y:Int,0≤y→y < us.length→T g x y < us.length→rd us (T g x y)=rd us x*rd us y%m
theorem ZkM {g:List (List Int)} (hg:Grp g) {m:Int} (m2:2≤m) (m12:m≤12) (k:Nat) {us:List Int} (hu:∀x∈us,1≤x∧x < m∧Int.gcd x m=1) (hl:us.length≤g.length) (out:List (Int×List Int)) :
  ZB.l0 k m us (us.length:Int) 0 out g=ite_ (GoP g m us) (ZB.l0 k m us (us.length:Int) (us.length:Int) out g) (some out):=by
 have n8:=hg.n8
 have outer:=scan us.length (fun x=>ZB.l0 k m us (us.length:Int) x out g) (fun x=>∀y:Int,0≤y→y < us.length→T g x y < us.length→rd us (T g x y)=rd us x*rd us y%m) (some out) (fun x x0 x1 _=>by
  have rx:=hg.row x x0 (by omega)
  have inner:=scanI us.length (fun y=>ZB.l1 k m us (us.length:Int) x y out g) (fun y=>T g x y < us.length→rd us (T g x y)=rd us x*rd us y%m) (some out) (ZB.l0 k m us (us.length:Int) (x+1) out g) (fun y y0 y1 _=>by
   obtain⟨t0,t1⟩:=hg.ent x y x0 (by omega) y0 (by omega)
   obtain⟨a0,a1,_⟩:=hu _ (ZcK x0 x1)
   obtain⟨b0,b1,_⟩:=hu _ (ZcK y0 y1)
   obtain⟨p0,p1⟩:=Zcs (a:=rd us x) (b:=rd us y) (m:=1000) (by omega) (by omega) (by omega) (by omega) (by omega)
   refine⟨fun h => ?_,fun h => ?_⟩
   ·
    by_cases ht:T g x y < us.length
    ·
     have h:=h ht
     rw[ZB.l1_eq,w64 (x:=y+1) (by omega) (by omega),w64 (x:=rd us x*rd us y) (by omega) (by omega),Zcl p0]
     (with_reducible repeat (first|refine Zj (by first|assumption|omega|rfl|exact B_pos (by omega)) ?_|refine Zi (by first|assumption|omega|decide|exact B_not (by omega)) ?_|refine Ze (by first|assumption) ?_|dsimp only))
    ·
     rw[ZB.l1_eq,w64 (x:=y+1) (by omega) (by omega)]
     (with_reducible repeat (first|refine Zj (by first|assumption|omega|rfl|exact B_pos (by omega)) ?_|refine Zi (by first|assumption|omega|decide|exact B_not (by omega)) ?_|refine Ze (by first|assumption) ?_|dsimp only))
   ·
    have ht:T g x y < us.length:=by
     by_cases q:T g x y < us.length
     ·
      exact q
     ·
      exact absurd (fun k=>absurd k q) h
    have h:¬ rd us (T g x y)=rd us x*rd us y%m:=fun k=>h fun _=>k
    rw[ZB.l1_eq,w64 (x:=rd us x*rd us y) (by omega) (by omega),Zcl p0]
    (with_reducible repeat (first|refine Zj (by first|assumption|omega|rfl|exact B_pos (by omega)) ?_|refine Zi (by first|assumption|omega|decide|exact B_not (by omega)) ?_|refine Ze (by first|assumption) ?_|dsimp only))) (fun _=>by
     rw[ZB.l1_eq,w64 (x:=x+1) (by omega) (by omega)]
     (with_reducible repeat (first|refine Zj (by first|assumption|omega|rfl|exact B_pos (by omega)) ?_|refine Zi (by first|assumption|omega|decide|exact B_not (by omega)) ?_|refine Ze (by first|assumption) ?_|dsimp only)))
  refine⟨fun h => ?_,fun h => ?_⟩ <;> rw[ZB.l0_eq,if_pos (by omega)]
  ·
   exact inner.1 h
  ·
   exact inner.2 h)
 rcases outer with ⟨h1,h2⟩|⟨j,j0,j1,_,h1,_,h2⟩
 ·
  rw[ZbK (show GoP g m us from h1),h2]
 ·
  rw[ZbN (show ¬ GoP g m us from fun q=>h1 (q j j0 j1))]
  exact h2
theorem pow12 {a b:Nat} (h:a=b+1):(12:Nat) ^ a=12*12 ^ b:=by rw[h,Nat.pow_succ,Nat.mul_comm]
theorem ZkO {g:List (List Int)} (hg:Grp g) {m:Int} (m2:2≤m) (m12:m≤12):∀(k:Nat) (us:List Int) (out:List (Int×List Int)),(∀x∈us,1≤x∧x < m∧Int.gcd x m=1)→us.length≤g.length→g.length < us.length+k→out.length+12 ^ (g.length - us.length)≤1000000000 →
  ∃O,ZB.f k g m us out=some (out++O)∧(∀p∈O,p.1=m∧Mdl g m p.2)∧O.length≤12 ^ (g.length - us.length)∧((∀x∈us,x=1)→O≠[]):=by
 have n8:=hg.n8
 intro k
 induction k with
 | zero=>intro us out _ hl hk _;omega
 | succ k ih =>
  intro us out hu hl hk hb
  have ht:=ZkM hg m2 m12 k hu hl out
  rw[ZB.f_eq,ht]
  by_cases hG:GoP g m us
  rotate_left
  ·
   rw[ZbN hG]
   refine⟨[],by rw[List.append_nil],by simp,Nat.zero_le _,fun h=>absurd (fun x x0 x1 y y0 y1 ht => ?_) hG⟩
   obtain⟨t0,_⟩:=hg.ent x y x0 (by omega) y0 (by omega)
   rw[h _ (ZcK x0 x1),h _ (ZcK y0 y1),h _ (ZcK t0 ht),Int.mul_one,Int.emod_eq_of_lt (by omega) (by omega)]
  rw[ZbK hG,ZB.l0_eq,if_neg (by omega)]
  by_cases hN:(us.length:Int)=(g.length:Int)
  ·
   rw[if_pos hN,Own_ us (by omega),Option.bind_some]
   have l1:([(m,us)]:List (Int×List Int)).length=1:=rfl
   have hp1:1≤12 ^ (g.length - us.length):=Nat.one_le_pow _ _ (by omega)
   rw[l1,if_pos (by omega)]
   refine⟨[(m,us)],rfl,fun p hp => ?_,by rw[l1];exact hp1,fun _=>by simp⟩
   rw[List.mem_singleton]at hp
   subst hp
   refine⟨rfl,m2,m12,by show us.length=_;omega,fun i i0 i1=>hu _ (ZcK i0 i1),fun i i0 i1 j j0 j1 => ?_⟩
   have i1:i < us.length:=i1
   have j1:j < us.length:=j1
   exact hG i i0 i1 j j0 j1 (by rw[hN];exact(hg.ent i j i0 (by omega) j0 (by omega)).2)
  rw[if_neg hN]
  have hp12:=pow12 (show g.length - us.length=(g.length - (us.length+1))+1 by omega)
  obtain⟨P,hP⟩:∃P,P=(12:Nat) ^ (g.length - (us.length+1)):=⟨_,rfl⟩
  rw[←hP]at hp12
  have loop:∀(n:Nat) (c:Int) (out:List (Int×List Int)),1≤c→c+n=m→out.length+n*P≤1000000000 →
    ∃O,ZB.l2 k m us (us.length:Int) c out g=some (out++O)∧(∀p∈O,p.1=m∧Mdl g m p.2)∧O.length≤n*P∧(c=1→(∀x∈us,x=1)→O≠[]):=by
   intro n
   induction n with
   | zero =>
    intro c out c0 hcm _
    exact⟨[],by rw[ZB.l2_eq,if_neg (by omega),List.append_nil],by simp,Nat.zero_le _,fun h=>by omega⟩
   | succ n ihn =>
    intro c out c0 hcm hb
    rw[Nat.succ_mul]at hb
    have hgcd:=Gcd_ (a:=c) (b:=m) (by omega) (by omega) (by omega) (by omega)
    have wc:wrapI (c+1)=c+1:=w64 (by omega) (by omega)
    have hO:=Own_ us (by omega)
    have l1:([c]:List Int).length=1:=rfl
    rw[ZB.l2_eq,if_pos (by omega),hgcd,Option.bind_some,hO,wc]
    by_cases hc:((Int.gcd c m:Nat):Int)=1
    rotate_left
    ·
     obtain⟨O,o1,o2,o3,o4⟩:=ihn (c+1) out (by omega) (by omega) (by omega)
     refine⟨O,by rw[if_neg hc];exact o1,o2,by rw[Nat.succ_mul];omega,fun h=>absurd ?_ hc⟩
     rw[h,Int.gcd_comm,Int.gcd_one_right];rfl
    rw[if_pos hc]
    by_cases hz:us.length=0∧¬ c=1
    ·
     obtain⟨O,o1,o2,o3,o4⟩:=ihn (c+1) out (by omega) (by omega) (by omega)
     exact⟨O,by rw[if_neg (by omega),if_neg hz.2];exact o1,o2,by rw[Nat.succ_mul];omega,fun h=>absurd h hz.2⟩
    have hu' : ∀x∈us++[c],1≤x∧x < m∧Int.gcd x m=1:=fun x hx=>by
     rcases List.mem_append.1 hx with h|h
     ·
      exact hu x h
     ·
      rw[List.mem_singleton]at h
      subst h
      exact⟨c0,by omega,by omega⟩
    have e1:(us++[c]).length=us.length+1:=by simp
    obtain⟨O,o1,o2,o3,o4⟩:=ih (us++[c]) out hu' (by omega) (by omega) (by rw[e1,←hP];omega)
    rw[e1,←hP]at o3
    obtain⟨O', q1,q2,q3,q4⟩:=ihn (c+1) (out++O) (by omega) (by omega) (by rw[List.length_append];omega)
    refine⟨O++O', ?_,fun p hp => ?_,by rw[List.length_append,Nat.succ_mul];omega,fun h ha => ?_⟩
    ·
     rw[←List.append_assoc,←q1]
     by_cases hx:us.length=0
     ·
      have hc1:c=1:=Classical.byContradiction fun q=>hz ⟨hx,q⟩
      rw[if_neg (by omega),if_pos hc1]
      dsimp only[Option.bind_some]
      rw[l1,if_pos (by omega),o1]
      rfl
     ·
      rw[if_pos (by omega)]
      dsimp only[Option.bind_some]
      rw[l1,if_pos (by omega),o1]
      rfl
    ·
     rcases List.mem_append.1 hp with h|h
     ·
      exact o2 p h
     ·
      exact q2 p h
    ·
     have:=o4 fun x hx=>by
      rcases List.mem_append.1 hx with h' | h'
      ·
       exact ha x h'
      ·
       rw[List.mem_singleton]at h';omega
     simp[this]
  obtain⟨O,a1,a2,a3,a4⟩:=loop (m.toNat - 1) 1 out (by omega) (by omega) (by
   have:(m.toNat - 1)*P≤12*P:=Nat.mul_le_mul_right P (by omega)
   omega)
  refine⟨O,a1,a2,?_,fun h=>a4 rfl h⟩
  rw[hp12]
  exact Nat.le_trans a3 (Nat.mul_le_mul_right P (by omega))
theorem Zli {g:List (List Int)} (hg:Grp g) {m:Int} (m2:2≤m) (m12:m≤12):∃O,Zbl.f g m=some O∧(∀p∈O,p.1=m∧Mdl g m p.2)∧0 < O.length∧O.length≤429981696:=by
 have n8:=hg.n8
 have hp:(12:Nat) ^ g.length≤429981696:=Nat.le_trans (Nat.pow_le_pow_right (by omega) n8) (by decide)
 obtain⟨O,o1,o2,o3,o4⟩:=ZkO hg m2 m12 fuel [] [] (by simp) (by simp) (by have:=Zf2;simp;omega) (by simp;omega)
 simp only[List.nil_append,List.length_nil,Nat.sub_zero]at o1 o3
 refine⟨O,by rw[Zbl.f_eq,o1];rfl,o2,List.length_pos_iff.2 (o4 (by simp)),by omega⟩
theorem Zkw {c:List Int} {i:Int} (h:Src c i) (hh:Int):∃m j h', Za2.f c i hh=some (m,c,j,h')∧Src c j∧2≤m∧m≤12:=by
 obtain⟨x,j,h', e,s,hx⟩:=Pick_ h hh [2,2,3,3,4,4,5,6,8,8,9,12,7,10,11] (by simp) (by simp)
 refine⟨x,j,h', by rw[Za2.f_eq,e];rfl,s,?_⟩
 simp only[List.mem_cons,List.not_mem_nil,or_false]at hx
 omega
theorem Zla {O:List (Int×List Int)} {x:Int} (x0:0≤x) (x1:x < O.length):Ty.rd (.pr (.int .i64) (.sl 2 (.int .i64))) O x∈O:=by
 obtain⟨n,rfl⟩:=Int.eq_ofNat_of_zero_le x0
 have hn:n < O.length:=by omega
 have:Ty.rd (.pr (.int .i64) (.sl 2 (.int .i64))) O (n:Int)=O[n]:=by
  simp[Ty.rd,List.getD_eq_getElem?_getD,List.getElem?_eq_getElem hn]
 rw[this]
 exact List.getElem_mem hn
theorem ZiB {c:List Int} {i:Int} (h:Src c i) (hh:Int) {g:List (List Int)} (hg:Grp g) {m:Int} (m2:2≤m) (m12:m≤12):∃u j h', ZaR.f c i hh g m=some (m,u,c,j,h')∧Src c j∧Mdl g m u:=by
 obtain⟨O,o1,o2,o3,o4⟩:=Zli hg m2 m12
 obtain⟨x,j,h', e,s,x0,x1,_⟩:=Next_ h hh (O.length:Int) (by omega)
 have x1:=x1 (by omega)
 have hm:=o2 _ (Zla x0 x1)
 refine⟨(Ty.rd (.pr (.int .i64) (.sl 2 (.int .i64))) O x).2,j,h', ?_,s,hm.2⟩
 rw[ZaR.f_eq,o1,Option.bind_some,e]
 dsimp only[Option.bind_some]
 rw[if_pos x0,if_pos x1,if_pos x0,if_pos x1,hm.1]
end Go.Proofs.YtoljodiflhbohaaGreatDoor.V
namespace Go.Proofs.YtoljodiflhbohaaGreatDoor.V
open Go Go.RowKit Go.Proofs.YtoljodiflhbohaaGreatDoor.D Go.Proofs.YtoljodiflhbohaaGreatDoor.P
def SmT (g:List (List Int)):Prop:=g.length≤9∧∀r∈g,r.length≤9
theorem SmT.max {g:List (List Int)} (h:SmT g):g.length≤maxLen∧∀r∈g,r.length≤maxLen:=⟨Zbu (by have:=h.1;omega),fun r hr=>Zbu (by have:=h.2 r hr;omega)⟩
theorem ZlE {g:List (List Int)} (hg:Grp g):SmT g:=⟨by have:=hg.n8;omega,fun r hr=>by have:=Zd2 hg r hr;omega⟩
theorem ZjN {g:List (List Int)} (hg:SmT g) {r:List Int} (hr:r.length≤9) (k:Nat):SmT (g.set k r):=by
 refine⟨by rw[List.length_set];exact hg.1,fun s hs => ?_⟩
 rcases List.mem_or_eq_of_mem_set hs with h|rfl
 ·
  exact hg.2 s h
 ·
  exact hr
theorem Bad_ {c:List Int} {i:Int} (h:Src c i) (hh:Int) {g:List (List Int)} (hg:Grp g):∃g' j h', ZV.f c i hh g=some (g', c,j,h')∧Src c j∧SmT g' := by
 have n8:=hg.n8;have n1:=hg.n1
 have hsm:=ZlE hg
 have hc:=Copy_ g (by omega) (fun r hr=>by have:=Zd2 hg r hr;omega)
 obtain⟨x,j,h', e,s,x0,x1,_⟩:=Next_ h hh 50 (by omega)
 obtain⟨y,j2,h2,e2,s2,y0,y1,_⟩:=Next_ s h' (g.length:Int) (by omega)
 have y1:=y1 (by omega)
 have ry:=hg.row y y0 y1
 rw[ZV.f_eq,hc,Option.bind_some,e]
 dsimp only[Option.bind_some]
 by_cases q0:x=0
 ·
  exact⟨[],j,h', by rw[if_pos q0],s,by simp[SmT]⟩
 by_cases q1:x=1
 ·
  obtain⟨z,j3,h3,e3,s3,z0,z1,_⟩:=Next_ s2 h2 (g.length:Int) (by omega)
  have z1:=z1 (by omega)
  obtain⟨v,j4,h4,e4,s4,_⟩:=Pick_ s3 h3 [0,1,-1,(g.length:Int)] (by simp) (by simp)
  refine⟨g.set y.toNat ((row g y).set z.toNat v),j4,h4,?_,s4,ZjN hsm (by rw[List.length_set];omega) _⟩
  rw[if_neg q0,if_pos q1,Zp.f_eq,Option.bind_some,e2]
  dsimp only[Option.bind_some]
  rw[if_pos y0,if_pos y1,if_pos y0,if_pos y1,e3]
  dsimp only[Option.bind_some]
  rw[e4]
  dsimp only[Option.bind_some]
  rw[if_pos z0,if_pos (by omega),if_pos z0,if_pos (by omega)]
 by_cases q2:x=2
 ·
  have r0:=hg.row 0 (by omega) (by omega)
  have l1:([row g 0]:List (List Int)).length=1:=rfl
  refine⟨g++[row g 0],j,h', ?_,s,⟨by rw[List.length_append,l1];omega,fun r hr => ?_⟩⟩
  ·
   rw[if_neg q0,if_neg q1,if_pos q2,if_pos (by omega),if_pos (by omega),Own_ _ (by omega)]
   dsimp only[Option.bind_some]
   rw[l1,if_pos (by omega)]
  ·
   rcases List.mem_append.1 hr with k|k
   ·
    exact hsm.2 r k
   ·
    rw[List.mem_singleton]at k
    subst k
    omega
 by_cases q3:x=3
 ·
  refine⟨g.set y.toNat ((row g y).drop 1),j2,h2,?_,s2,ZjN hsm (by rw[List.length_drop];omega) _⟩
  rw[if_neg q0,if_neg q1,if_neg q2,if_pos q3,Zp.f_eq,Option.bind_some,e2]
  dsimp only[Option.bind_some]
  rw[if_pos y0,if_pos y1,if_pos y0,if_pos y1,if_pos (by omega),if_pos y0,if_pos y1,if_pos y0,if_pos y1]
  rfl
 ·
  exact⟨g,j,h', by rw[if_neg q0,if_neg q1,if_neg q2,if_neg q3],s,hsm⟩
theorem Zln {c:List Int} {i:Int} (h:Src c i) (hh:Int) (m:Int) {u:List Int} (u1:1≤u.length) (u8:u.length≤8):∃m' u' j h', Zbm.f c i hh m u=some (m', u', c,j,h')∧Src c j∧u'.length≤9:=by
 obtain⟨x,j,h', e,s,x0,x1,_⟩:=Next_ h hh 40 (by omega)
 rw[Zbm.f_eq,e]
 dsimp only[Option.bind_some]
 by_cases q0:x=0
 ·
  obtain⟨v,j4,h4,e4,s4,_⟩:=Pick_ s h' [1,13,wrapI (m+1),0] (by simp) (by simp)
  refine⟨v,u,j4,h4,?_,s4,by omega⟩
  rw[if_pos q0,e4]
  rfl
 by_cases q1:x=1
 ·
  obtain⟨y,j2,h2,e2,s2,y0,y1,_⟩:=Next_ s h' (u.length:Int) (by omega)
  have y1:=y1 (by omega)
  obtain⟨v,j4,h4,e4,s4,_⟩:=Pick_ s2 h2 [0,-1,2,3,m] (by simp) (by simp)
  refine⟨m,u.set y.toNat v,j4,h4,?_,s4,by rw[List.length_set];omega⟩
  rw[if_neg q0,if_pos q1,Own_ u (by omega)]
  dsimp only[Option.bind_some]
  rw[e2]
  dsimp only[Option.bind_some]
  rw[e4]
  dsimp only[Option.bind_some]
  rw[if_pos y0,if_pos y1,if_pos y0,if_pos y1]
 by_cases q2:x=2
 ·
  have l1:([1]:List Int).length=1:=rfl
  refine⟨m,u++[1],j,h', ?_,s,by rw[List.length_append,l1];omega⟩
  rw[if_neg q0,if_neg q1,if_pos q2,Own_ u (by omega)]
  dsimp only[Option.bind_some]
  rw[l1,if_pos (by omega)]
 ·
  exact⟨m,u,j,h', by rw[if_neg q0,if_neg q1,if_neg q2],s,by omega⟩
theorem ZgH {g:List (List Int)} (hg:Grp g) {m:Int} {u:List Int} (hm:Mdl g m u):1≤u.length∧u.length≤8:=by
 have:=hg.n8;have:=hg.n1;have:=hm.len
 omega
structure CodeL (c:List Int):Prop where
 ent:∀x∈c,0≤x∧x≤255
 len:c.length≤4096
end Go.Proofs.YtoljodiflhbohaaGreatDoor.V
namespace Go.Proofs.YtoljodiflhbohaaGreatDoor.V
open Go Go.RowKit Go.Proofs.YtoljodiflhbohaaGreatDoor.D Go.Proofs.YtoljodiflhbohaaGreatDoor.P
def smL:List ByteArray:=[⟨#[99,49]⟩,⟨#[99,50]⟩,⟨#[99,50]⟩,⟨#[99,51]⟩,⟨#[99,51]⟩,⟨#[99,52]⟩,⟨#[107,108,101,105,110]⟩]
theorem Zkt {i:Int} (i0:0≤i) (i1:i < 7):∃G,Zab.f (Ty.rd .str smL i)=some (G,true)∧Grp G:=by
 have hi:i=0∨i=1∨i=2∨i=3∨i=4∨i=5∨i=6:=by omega
 rcases hi with rfl|rfl|rfl|rfl|rfl|rfl|rfl
 ·
  exact Zeq (i:=0) (by omega) (by omega)
 ·
  exact Zeq (i:=1) (by omega) (by omega)
 ·
  exact Zeq (i:=1) (by omega) (by omega)
 ·
  exact Zeq (i:=2) (by omega) (by omega)
 ·
  exact Zeq (i:=2) (by omega) (by omega)
 ·
  exact Zeq (i:=3) (by omega) (by omega)
 ·
  exact Zeq (i:=8) (by omega) (by omega)
theorem Zkx {c:List Int} {i:Int} (h:Src c i) (hh:Int):∃G j h', Za1.f c i hh=some (G,c,j,h')∧Src c j∧Grp G:=by
 obtain⟨x,j,h', e,s,x0,x1,_⟩:=Next_ h hh 7 (by omega)
 have x1:=x1 (by omega)
 obtain⟨G,hG,hgr⟩:=Zkt x0 x1
 obtain⟨y,j2,h2,e2,s2,y0,y1,_⟩:=Next_ s h' 2 (by omega)
 have hl:((smL.length:Nat):Int)=7:=rfl
 have hf:=Za1.f_eq c i hh
 rw[show([(⟨#[99,49]⟩:ByteArray),(⟨#[99,50]⟩:ByteArray),(⟨#[99,50]⟩:ByteArray),(⟨#[99,51]⟩:ByteArray),(⟨#[99,51]⟩:ByteArray),(⟨#[99,52]⟩:ByteArray),(⟨#[107,108,101,105,110]⟩:ByteArray)]:List ByteArray)=smL from rfl,hl]at hf
 by_cases q:y=0
 ·
  refine⟨G,j2,h2,?_,s2,hgr⟩
  rw[hf,e]
  dsimp only[Option.bind_some]
  rw[if_pos x0,if_pos x1,if_pos x0,if_pos x1,hG]
  dsimp only[Option.bind_some]
  rw[e2]
  dsimp only[Option.bind_some]
  rw[if_pos q]
 ·
  obtain⟨p,j3,h3,e3,s3,o,p0⟩:=Zgr s2 h2 (n:=G.length) hgr.n1 (by have:=hgr.n8;omega)
  have hr:=ZeO hgr o.ordr
  refine⟨ren G p,j3,h3,?_,s3,ZjF hgr o.ordr p0⟩
  rw[hf,e]
  dsimp only[Option.bind_some]
  rw[if_pos x0,if_pos x1,if_pos x0,if_pos x1,hG]
  dsimp only[Option.bind_some]
  rw[e2]
  dsimp only[Option.bind_some]
  rw[if_neg q,Zp.f_eq,Option.bind_some,e3]
  dsimp only[Option.bind_some]
  rw[hr]
  rfl
theorem Zgp {c:List Int} {i:Int} (h:Src c i) (hh:Int) (m:Int) (u:List Int) (d:Int) {v:List Int} (hv:v.length≤20000):∃d' v' j h', ZM.f c i hh m u d v=some (d', v', c,j,h')∧Src c j∧v'.length≤20001:=by
 obtain⟨x,j,h', e,s,x0,x1,_⟩:=Next_ h hh 40 (by omega)
 rw[ZM.f_eq,Own_ v (by omega),Option.bind_some,e]
 dsimp only[Option.bind_some]
 by_cases q0:x=0
 ·
  obtain⟨y,j4,h4,e4,s4,_⟩:=Pick_ s h' [-1,4,wrapI (d+1)] (by simp) (by simp)
  refine⟨y,v,j4,h4,?_,s4,by omega⟩
  rw[if_pos q0,e4]
  rfl
 by_cases q1:x=1
 ·
  have l1:([0]:List Int).length=1:=rfl
  refine⟨d,v++[0],j,h', ?_,s,by rw[List.length_append,l1];omega⟩
  rw[if_neg q0,if_pos q1,l1,if_pos (by omega)]
 by_cases q2:x=2
 ·
  by_cases q3:(v.length:Int) > 0
  ·
   obtain⟨y,j2,h2,e2,s2,y0,y1,_⟩:=Next_ s h' (v.length:Int) (by omega)
   have y1:=y1 (by omega)
   obtain⟨w,j4,h4,e4,s4,_⟩:=Pick_ s2 h2 [-1,m] (by simp) (by simp)
   refine⟨d,v.set y.toNat w,j4,h4,?_,s4,by rw[List.length_set];omega⟩
   rw[if_neg q0,if_neg q1,if_pos q2,if_pos q3,e2]
   dsimp only[Option.bind_some]
   rw[e4]
   dsimp only[Option.bind_some]
   rw[if_pos y0,if_pos y1,if_pos y0,if_pos y1]
  ·
   exact⟨d,v,j,h', by rw[if_neg q0,if_neg q1,if_pos q2,if_neg q3],s,by omega⟩
 ·
  exact⟨d,v,j,h', by rw[if_neg q0,if_neg q1,if_neg q2],s,by omega⟩
end Go.Proofs.YtoljodiflhbohaaGreatDoor.V
namespace Go.Proofs.YtoljodiflhbohaaGreatDoor.V
open Go Go.RowKit Go.Proofs.YtoljodiflhbohaaGreatDoor.D Go.Proofs.YtoljodiflhbohaaGreatDoor.P
theorem ZiH {m:Int} {r:List Int} (h:AllIn m r) {k:Nat} {y:Int} (y0:0≤y) (y1:y < m):AllIn m (r.set k y):=ZbU fun x hx=>by
 rcases List.mem_or_eq_of_mem_set hx with h' | h'
 ·
  exact h.mem h'
 ·
  rw[h'];exact⟨y0,y1⟩
theorem ZhP {c:List Int} (n:Nat) (p:Int) {m:Int} (m2:2≤m) (m12:m≤12) (u:List Int) (d:Int):∀(k x:Nat) (r:List Int) (i hh:Int),Src c i→x+k=r.length→r.length≤20000→AllIn m r →
  ∃v j h', Zu.l0 n p (x:Int) c i hh m u 0 d r=some (d,v,c,j,h')∧Src c j∧AllIn m v∧v.length=r.length:=by
 intro k
 induction k with
 | zero =>
  intro x r i hh hs hk hl ha
  exact⟨r,i,hh,by rw[Zu.l0_eq,if_neg (by omega)],hs,ha,rfl⟩
 | succ k ih =>
  intro x r i hh hs hk hl ha
  obtain⟨y,j2,h2,e2,s2,_⟩:=Next_ hs hh 4 (by omega)
  rw[Zu.l0_eq,if_pos (by omega),e2]
  dsimp only[Option.bind_some]
  by_cases q:y < p
  ·
   obtain⟨z,j3,h3,e3,s3,z0,z1,_⟩:=Next_ s2 h2 m (by omega)
   have z1:=z1 (by omega)
   obtain⟨v,j4,h4,e4,s4,a4,l4⟩:=ih (x+1) (r.set x z) j3 h3 s3 (by rw[List.length_set];omega) (by rw[List.length_set];omega) (ZiH ha z0 z1)
   rw[List.length_set]at l4
   refine⟨v,j4,h4,?_,s4,a4,l4⟩
   rw[if_pos q,e3]
   dsimp only[Option.bind_some]
   rw[if_pos (by omega),if_pos (by omega),if_pos (by omega),if_pos (by omega),wn (j:=x) (by omega),Int.toNat_natCast]
   exact e4
  ·
   obtain⟨v,j4,h4,e4,s4,a4,l4⟩:=ih (x+1) r j2 h2 s2 (by omega) hl ha
   refine⟨v,j4,h4,?_,s4,a4,l4⟩
   rw[if_neg q,wn (j:=x) (by omega)]
   exact e4
theorem ZkL {c:List Int} {g:List (List Int)} (hg:Grp g) {m:Int} {u:List Int} (hm:Mdl g m u):∀(d n:Nat),d≤3→d < n→∀(i hh:Int),Src c i →
  ∃v j h', Zu.f n c i hh g m u (d:Int)=some ((d:Int),v,c,j,h')∧Src c j∧Co g m (d:Int) v:=by
 have m2:=hm.m2;have m12:=hm.m12
 intro d
 induction d with
 | zero =>
  intro n hd hn i hh hs
  obtain⟨n,rfl⟩:∃k,n=k+1:=⟨n - 1,by omega⟩
  obtain⟨p,j2,h2,e2,s2,_⟩:=Pick_ hs hh [1,2,4] (by simp) (by simp)
  have hz:=zero03 hg (d:=((0:Nat):Int)) (by omega) (by omega)
  have co:=ZjV hg m2 (d:=((0:Nat):Int)) (by omega) (by omega)
  have hl:=ZdH hg co
  obtain⟨v,j3,h3,e3,s3,a3,l3⟩:=ZhP n p m2 m12 u ((0:Nat):Int) (List.replicate (cells g ((0:Nat):Int)).toNat (0:Int)).length 0 _ j2 h2 s2 (by omega) (by omega) co.2.2
  refine⟨v,j3,h3,?_,s3,co.1,by rw[l3];exact co.2.1,a3⟩
  rw[Zu.f_eq,if_neg (by omega),hz]
  dsimp only[Option.bind_some]
  rw[e2]
  dsimp only[Option.bind_some]
  exact e3
 | succ d ih =>
  intro n hd hn i hh hs
  obtain⟨n,rfl⟩:∃k,n=k+1:=⟨n - 1,by omega⟩
  obtain⟨x,j0,h0,e0,s0,_⟩:=Next_ hs hh 3 (by omega)
  have wd:wrapI (((d+1:Nat):Int) - 1)=(d:Int):=by rw[w64 (by omega) (by omega)];omega
  rw[Zu.f_eq,if_pos (by omega),e0]
  dsimp only[Option.bind_some]
  by_cases q:x=0
  ·
   obtain⟨v,j3,h3,e3,s3,c3⟩:=ih n (by omega) (by omega) j0 h0 s0
   have hB:=Boundary03 hg hm c3
   refine⟨bdL g m u v d,j3,h3,?_,s3,Zgt hg m2 u v (by omega)⟩
   rw[if_pos q,wd,e3]
   dsimp only[Option.bind_some]
   rw[hB]
   rfl
  ·
   obtain⟨p,j2,h2,e2,s2,_⟩:=Pick_ s0 h0 [1,2,4] (by simp) (by simp)
   have hz:=zero03 hg (d:=((d+1:Nat):Int)) (by omega) (by omega)
   have co:=ZjV hg m2 (d:=((d+1:Nat):Int)) (by omega) (by omega)
   have hl:=ZdH hg co
   obtain⟨v,j3,h3,e3,s3,a3,l3⟩:=ZhP n p m2 m12 u ((d+1:Nat):Int) (List.replicate (cells g ((d+1:Nat):Int)).toNat (0:Int)).length 0 _ j2 h2 s2 (by omega) (by omega) co.2.2
   refine⟨v,j3,h3,?_,s3,co.1,by rw[l3];exact co.2.1,a3⟩
   rw[if_neg q,hz]
   dsimp only[Option.bind_some]
   rw[e2]
   dsimp only[Option.bind_some]
   exact e3
theorem Ziz {c:List Int} {i:Int} (h:Src c i) (hh:Int) {g:List (List Int)} (hg:Grp g) {m:Int} {u:List Int} (hm:Mdl g m u) {d:Int} (d0:0≤d) (d3:d≤3) :
  ∃v j h', Zu.f fuel c i hh g m u d=some (d,v,c,j,h')∧Src c j∧Co g m d v:=by
 obtain⟨n,rfl⟩:=Int.eq_ofNat_of_zero_le d0
 exact ZkL hg hm n fuel (by omega) (by rw[Zf2];omega) i hh h
theorem ZkK {c:List Int} {i:Int} (h:Src c i) (hh:Int) (g:List (List Int)):∃d j h', Za5.f c i hh g=some (d,c,j,h')∧Src c j∧0≤d∧d≤3:=by
 rw[Za5.f_eq,Zp.f_eq,Option.bind_some]
 by_cases q:(g.length:Int) > 5
 ·
  obtain⟨d,j,h', e,s,hd⟩:=Pick_ h hh [0,1,1,2,2,3] (by simp) (by simp)
  refine⟨d,j,h', by rw[if_pos q,e];rfl,s,?_⟩
  simp at hd;omega
 ·
  obtain⟨d,j,h', e,s,hd⟩:=Pick_ h hh [0,1,2,2,3] (by simp) (by simp)
  refine⟨d,j,h', by rw[if_neg q,e];rfl,s,?_⟩
  simp at hd;omega
theorem ZfU {c:List Int} {i:Int} (h:Src c i) (hh:Int):∃g m u d v j h', Zao.f c i hh=some (g,m,u,d,v,c,j,h')∧Src c j∧Grp g∧Mdl g m u∧Co g m d v:=by
 have fin:∀(g:List (List Int)) (i hh:Int),Grp g→Src c i→∃m u d v j h', Zao.j0 c i hh 0 0 g=some (g,m,u,d,v,c,j,h')∧Src c j∧Grp g∧Mdl g m u∧Co g m d v:=fun g i hh hg hs=>by
  obtain⟨m,j2,h2,e2,s2,m2,m12⟩:=Zkw hs hh
  obtain⟨u,j3,h3,e3,s3,hm⟩:=ZiB s2 h2 hg m2 m12
  obtain⟨d,j4,h4,e4,s4,d0,d3⟩:=ZkK s3 h3 g
  obtain⟨v,j5,h5,e5,s5,hc⟩:=Ziz s4 h4 hg hm d0 d3
  refine⟨m,u,d,v,j5,h5,?_,s5,hg,hm,hc⟩
  rw[Zao.j0_eq,e2]
  dsimp only[Option.bind_some]
  rw[e3]
  dsimp only[Option.bind_some]
  rw[e4]
  dsimp only[Option.bind_some]
  rw[e5]
  rfl
 obtain⟨G,j,h', e,s,hg⟩:=Draw_ h hh
 obtain⟨x,j2,h2,e2,s2,_⟩:=Next_ s h' 2 (by omega)
 rw[Zao.f_eq,e]
 dsimp only[Option.bind_some]
 rw[e2]
 dsimp only[Option.bind_some]
 by_cases q:x=0
 ·
  obtain⟨G', j3,h3,e3,s3,hg'⟩:=Zkx s2 h2
  obtain⟨m,u,d,v,j4,h4,e4,r⟩:=fin G' j3 h3 hg' s3
  refine⟨G', m,u,d,v,j4,h4,?_,r⟩
  rw[if_pos q,e3]
  dsimp only[Option.bind_some]
  exact e4
 ·
  obtain⟨m,u,d,v,j4,h4,e4,r⟩:=fin G j2 h2 hg s2
  exact⟨G,m,u,d,v,j4,h4,by rw[if_neg q];exact e4,r⟩
theorem ZhE {c:List Int} (h:CodeL c):∃g m u d v,Za3.f c=some (g,m,u,d,v)∧SmT g∧u.length≤9∧v.length≤20001:=by
 obtain⟨h0,e0,s0⟩:=From_ h.ent h.len
 obtain⟨g,m,u,d,v,j,h1,e1,s1,hg,hm,hc⟩:=ZfU s0 h0
 obtain⟨u1,u8⟩:=ZgH hg hm
 obtain⟨g', j2,h2,e2,s2,hg'⟩:=Bad_ s1 h1 hg
 obtain⟨m', u', j3,h3,e3,s3,hu'⟩:=Zln s2 h2 m u1 u8
 obtain⟨d', v', j4,h4,e4,s4,hv'⟩:=Zgp s3 h3 m u d (v:=v) (by have:=ZdH hg hc;omega)
 refine⟨g', m', u', d', v', ?_,hg', hu', hv'⟩
 rw[Za3.f_eq,e0]
 dsimp only[Option.bind_some]
 rw[e1]
 dsimp only[Option.bind_some]
 rw[e2]
 dsimp only[Option.bind_some]
 rw[e3]
 dsimp only[Option.bind_some]
 rw[e4]
 rfl
theorem ZeD {c:List Int} (h:CodeL c):∃g m u d v,Zae.f c=some (g,m,u,d,v)∧SmT g∧u.length≤9∧v.length≤20001:=by
 obtain⟨g,m,u,d,v,e,r⟩:=ZhE h
 refine⟨g,m,u,d,v,?_,r⟩
 rw[Zae.f_eq,e]
 rfl
theorem ZiD {c:List Int} (h:CodeL c):∃g m u d,Zaf.f c=some (g,m,u,d)∧SmT g∧u.length≤9:=by
 obtain⟨g,m,u,d,v,e,r1,r2,r3⟩:=ZhE h
 obtain⟨h0,e0,s0⟩:=From_ h.ent h.len
 obtain⟨x,j,h1,e1,s1⟩:=Near_ s0 h0 3 (by omega) (by omega)
 refine⟨g,m,u,x,?_,r1,r2⟩
 rw[Zaf.f_eq,e]
 dsimp only[Option.bind_some]
 rw[e0]
 dsimp only[Option.bind_some]
 rw[e1]
 rfl
theorem ZiA {c:List Int} (h:CodeL c):∃g m u d v x,Z7.f c=some (g,m,u,d,v,x)∧SmT g∧u.length≤9∧v.length≤20001:=by
 obtain⟨h0,e0,s0⟩:=From_ h.ent h.len
 obtain⟨g,m,u,d,v,j,h1,e1,s1,hg,hm,hc⟩:=ZfU s0 h0
 obtain⟨u1,u8⟩:=ZgH hg hm
 have n8:=hg.n8;have n1:=hg.n1
 have wl:wrapI ((g.length:Int) - 1)=(g.length:Int) - 1:=w64 (by omega) (by omega)
 obtain⟨x,j2,h2,e2,s2⟩:=Near_ s1 h1 ((g.length:Int) - 1) (by omega) (by omega)
 obtain⟨g', j3,h3,e3,s3,hg'⟩:=Bad_ s2 h2 hg
 obtain⟨d', v', j4,h4,e4,s4,hv'⟩:=Zgp s3 h3 m u d (v:=v) (by have:=ZdH hg hc;omega)
 refine⟨g', m,u,d', v', x,?_,hg', by omega,hv'⟩
 rw[Z7.f_eq,e0]
 dsimp only[Option.bind_some]
 rw[e1]
 dsimp only[Option.bind_some]
 rw[Zp.f_eq,Option.bind_some,wl,e2]
 dsimp only[Option.bind_some]
 rw[e3]
 dsimp only[Option.bind_some]
 rw[e4]
 rfl
theorem Zkg {g:List (List Int)} (hg:Grp g) {m:Int} (m2:2≤m) (m12:m≤12):Mdl g m (List.replicate g.length 1):=by
 have ho:∀i:Int,0≤i→i < g.length→rd (List.replicate g.length (1:Int)) i=1:=fun i i0 i1=>by
  obtain⟨k,rfl⟩:=Int.eq_ofNat_of_zero_le i0
  rw[ZbW (by rw[List.length_replicate];omega),List.getElem_replicate]
 refine⟨m2,m12,List.length_replicate ..,fun i i0 i1 => ?_,fun i i0 i1 j j0 j1 => ?_⟩
 ·
  rw[List.length_replicate]at i1
  rw[ho i i0 i1]
  exact⟨by omega,by omega,Int.one_gcd⟩
 ·
  rw[List.length_replicate]at i1 j1
  obtain⟨t0,t1⟩:=hg.ent i j i0 i1 j0 j1
  rw[ho _ t0 t1,ho i i0 i1,ho j j0 j1,Int.mul_one,Int.emod_eq_of_lt (by omega) (by omega)]
theorem Zk7 {c:List Int} {g:List (List Int)} (hg:Grp g) {m m' : Int} {u w:List Int} (hm:Mdl g m u) (hw:Mdl g m' w) {d:Int} {v:List Int} (hc:Co g m d v) (i hh:Int) (hs:Src c i) :
  ∃g' d1 v1 d2 v2,Zh.l0 (g.length:Int) 0 0 0 0 c i hh g m u d v m' w=some (g', m,u,m', w,d1,v1,d2,v2)∧SmT g' ∧ v1.length≤20001∧v2.length≤20001:=by
 have tail:∀(d:Int) (v:List Int) (i hh:Int),Co g m d v→Src c i→∃g' d1 v1 d2 v2,((ZF.f c i hh ([0,1,1,2]:List Int)).bind fun t73=>(Zu.f fuel t73.2.1 t73.2.2.1 t73.2.2.2 g m' w t73.1).bind fun t74=>(ZV.f t74.2.2.1 t74.2.2.2.1 t74.2.2.2.2 g).bind fun t77=>(ZM.f t77.2.1 t77.2.2.1 t77.2.2.2 m u d v).bind fun t83=>(ZM.f t83.2.2.1 t83.2.2.2.1 t83.2.2.2.2 m' w t74.1 t74.2.1).bind fun t87=>some (t77.1,m,u,m', w,t83.1,t83.2.1,t87.1,t87.2.1))=some (g', m,u,m', w,d1,v1,d2,v2)∧SmT g' ∧ v1.length≤20001∧v2.length≤20001:=fun d v i hh hc hs=>by
  obtain⟨e,j2,h2,e2,s2,he⟩:=Pick_ hs hh [0,1,1,2] (by simp) (by simp)
  have he:0≤e∧e≤3:=by simp at he;omega
  obtain⟨v', j3,h3,e3,s3,hc'⟩:=Ziz s2 h2 hg hw he.1 he.2
  obtain⟨g', j4,h4,e4,s4,hg'⟩:=Bad_ s3 h3 hg
  obtain⟨d1,v1,j5,h5,e5,s5,hv1⟩:=Zgp s4 h4 m u d (v:=v) (by have:=ZdH hg hc;omega)
  obtain⟨d2,v2,j6,h6,e6,s6,hv2⟩:=Zgp s5 h5 m' w e (v:=v') (by have:=ZdH hg hc';omega)
  refine⟨g', d1,v1,d2,v2,?_,hg', hv1,hv2⟩
  rw[e2]
  dsimp only[Option.bind_some]
  rw[e3]
  dsimp only[Option.bind_some]
  rw[e4]
  dsimp only[Option.bind_some]
  rw[e5]
  dsimp only[Option.bind_some]
  rw[e6]
  rfl
 rw[Zh.l0_eq,Zp.f_eq,Option.bind_some,if_neg (by omega)]
 by_cases q3:d=3
 ·
  obtain⟨x,j0,h0,e0,s0,_⟩:=Next_ hs hh 2 (by omega)
  rw[if_pos q3,e0]
  dsimp only[Option.bind_some]
  by_cases q:x=0
  ·
   obtain⟨v0,j1,h1,e1,s1,hc1⟩:=Ziz s0 h0 hg hm (d:=1) (by omega) (by omega)
   rw[if_pos q,e1]
   dsimp only[Option.bind_some]
   exact tail 1 v0 j1 h1 hc1 s1
  ·
   rw[if_neg q]
   exact tail d v j0 h0 hc s0
 ·
  rw[if_neg q3]
  exact tail d v i hh hc hs
def PQ (o:Option (List (List Int)×Int×List Int×Int×List Int×Int×List Int×Int×List Int)):Prop:=∃g m u m' w d1 v1 d2 v2,o=some (g,m,u,m', w,d1,v1,d2,v2)∧SmT g∧u.length≤9∧w.length≤9∧v1.length≤20001∧v2.length≤20001
theorem Zgq {c:List Int} (h:CodeL c):PQ (Zh.f c):=by
 obtain⟨h0,e0,s0⟩:=From_ h.ent h.len
 obtain⟨g,m,u,d,v,j,h1,e1,s1,hg,hm,hc⟩:=ZfU s0 h0
 obtain⟨u1,u8⟩:=ZgH hg hm
 have n8:=hg.n8;have m2:=hm.m2;have m12:=hm.m12
 have fin:∀(m' : Int) (w:List Int) (i hh:Int),Mdl g m' w→Src c i→PQ (Zh.l0 (g.length:Int) 0 0 0 0 c i hh g m u d v m' w):=fun m' w i hh hw hs=>by
  obtain⟨g', d1,v1,d2,v2,e,a,b1,b2⟩:=Zk7 hg hm hw hc i hh hs
  exact⟨g', m,u,m', w,d1,v1,d2,v2,e,a,by omega,by have:=(ZgH hg hw).2;omega,b1,b2⟩
 obtain⟨x,j2,h2,e2,s2,_⟩:=Next_ s1 h1 3 (by omega)
 rw[Zh.f_eq,e0]
 dsimp only[Option.bind_some]
 rw[e1]
 dsimp only[Option.bind_some]
 rw[e2]
 dsimp only[Option.bind_some]
 by_cases q:x=0
 rotate_left
 ·
  rw[if_neg q]
  have k:=fin m u j2 h2 hm s2
  rw[Zh.l0_eq,Zp.f_eq,Option.bind_some,if_neg (by omega)]at k
  exact k
 rw[if_pos q]
 obtain⟨m', j3,h3,e3,s3,k2,k12⟩:=Zkw s2 h2
 rw[e3]
 dsimp only[Option.bind_some]
 obtain⟨w,j4,h4,e4,s4,hw⟩:=ZiB s3 h3 hg k2 k12
 rw[e4]
 dsimp only[Option.bind_some]
 by_cases q2:m' = m
 ·
  rw[if_pos q2]
  have k:=fin m' w j4 h4 hw s4
  rw[Zh.l0_eq,Zp.f_eq,Option.bind_some,if_neg (by omega)]at k
  exact k
 rw[if_neg q2]
 obtain⟨y,j5,h5,e5,s5,_⟩:=Next_ s4 h4 4 (by omega)
 rw[e5]
 dsimp only[Option.bind_some]
 by_cases q3:y > 0
 rotate_left
 ·
  rw[if_neg q3]
  have k:=fin m' w j5 h5 hw s5
  rw[Zh.l0_eq,Zp.f_eq,Option.bind_some,if_neg (by omega)]at k
  exact k
 rw[if_pos q3]
 have l1:([1]:List Int).length=1:=rfl
 have main:=up g.length (fun k=>Zh.l0 (k:Int) 0 0 0 0 c j5 h5 g m u d v m (List.replicate k 1)) (fun k hk=>by
  rw[List.replicate_succ', Zh.l0_eq,Zp.f_eq,Option.bind_some,if_pos (by omega),List.length_replicate,l1,if_pos (by omega),wn (j:=k) (by omega)])
 simp only[Int.natCast_zero,List.replicate_zero]at main
 rw[main]
 exact fin m _ j5 h5 (Zkg hg m2 m12) s5
end Go.Proofs.YtoljodiflhbohaaGreatDoor.V
namespace Go.Proofs.YtoljodiflhbohaaGreatDoor.V
open Go Go.RowKit Go.Proofs.YtoljodiflhbohaaGreatDoor.D Go.Proofs.YtoljodiflhbohaaGreatDoor.P
theorem Zlp {g:List (List Int)} {h:List (List Int)} (hg:Grp g) (hh:Grp h) {xs:List Int} {K:Nat} (hx:AllIn h.length xs) (hl:xs.length=K+1) (hK:K < g.length) (n:Nat) (done:List Int) (y:Int) (r2:List (List Int)) {i:Nat} (hi:i≤K):∀(k j:Nat) (z:Bool),j+k=K+1→∃b,Zg.l2 n done false (K:Int) y z (i:Int) (j:Int) g h r2 xs=Zg.l1 n done false (K:Int) y b ((i+1:Nat):Int) g h r2 xs:=by
 have n8:=hg.n8
 intro k
 induction k with
 | zero =>
  intro j z hj
  exact⟨z,by rw[Zg.l2_eq,if_neg (by omega),wn (j:=i) (by omega)]⟩
 | succ k ih =>
  intro j z hj
  rw[Zg.l2_eq,if_pos (by omega)]
  cases z with
  | false=>exact⟨false,by rw[if_neg (by decide),wn (j:=i) (by omega)]⟩
  | true =>
   have lr:=hg.row (i:Int) (by omega) (by omega)
   obtain⟨t0,t1⟩:=hg.ent (i:Int) (j:Int) (by omega) (by omega) (by omega) (by omega)
   obtain⟨a0,a1⟩:=hx (i:Int) (by omega) (by omega)
   obtain⟨b0,b1⟩:=hx (j:Int) (by omega) (by omega)
   have lr2:=hh.row _ a0 a1
   rw[if_pos rfl,if_pos (by omega),if_pos (by omega),if_pos (by omega),if_pos (by omega),wn (j:=j) (by omega)]
   by_cases q:T g (i:Int) (j:Int) > (K:Int)
   ·
    obtain⟨b,e⟩:=ih (j+1) true (by omega)
    exact⟨b,by rw[if_pos q];exact e⟩
   ·
    obtain⟨b,e⟩:=ih (j+1) (decide (rd xs (T g (i:Int) (j:Int))=T h (rd xs (i:Int)) (rd xs (j:Int)))) (by omega)
    refine⟨b,?_⟩
    rw[if_neg q,if_pos (by omega),if_pos (by omega),if_pos (by omega),if_pos (by omega),if_pos (by omega),if_pos (by omega),if_pos (by omega),if_pos (by omega),if_pos (by omega),if_pos (by omega),if_pos (by omega),if_pos (by omega),if_pos (by omega),if_pos (by omega),if_pos (by omega),if_pos (by omega)]
    exact e
theorem ZjW {g:List (List Int)} {h:List (List Int)} (hg:Grp g) (hh:Grp h) {xs:List Int} {K:Nat} (hx:AllIn h.length xs) (hl:xs.length=K+1) (hK:K < g.length) (n:Nat) (done:List Int) (y:Int) (r2:List (List Int)):∀(k i:Nat) (z:Bool),i+k=K+1→∃b,Zg.l1 n done false (K:Int) y z (i:Int) g h r2 xs =
  if b=true then((Zg.f n g h xs false).bind fun t106=>if r2.length+t106.length≤5864062014805 then(Zg.l0 n done false (K:Int) (wrapI (y+1)) g h (r2++t106))else none)else(Zg.l0 n done false (K:Int) (wrapI (y+1)) g h r2):=by
 have n8:=hg.n8
 have df:decide (false=true)=false:=rfl
 intro k
 induction k with
 | zero =>
  intro i z hi
  exact⟨z,by rw[Zg.l1_eq,if_neg (by omega),df]⟩
 | succ k ih =>
  intro i z hi
  rw[Zg.l1_eq,if_pos (by omega)]
  cases z with
  | false=>exact⟨false,by rw[if_neg (by decide),df]⟩
  | true =>
   obtain⟨b,e⟩:=Zlp hg hh hx hl hK n done y r2 (i:=i) (by omega) (K+1) 0 true (by omega)
   obtain⟨b', e'⟩:=ih (i+1) b (by omega)
   refine⟨b', ?_⟩
   rw[if_pos rfl,if_neg (by decide)]
   exact e.trans e'
theorem ZiF {g h:List (List Int)} (hg:Grp g) (hh:Grp h):∀(n:Nat) (done:List Int),AllIn h.length done→done.length≤g.length→g.length < done.length+n →
  ∃A,Zg.f n g h done false=some A∧(∀r∈A,r.length=g.length∧AllIn h.length r)∧A.length≤8 ^ (g.length - done.length):=by
 have n8:=hg.n8;have k8:=hh.n8;have k1:=hh.n1
 intro n
 induction n with
 | zero=>intro done _ _ h3;omega
 | succ n ih =>
  intro done h1 h2 h3
  rw[Zg.f_eq,Zp.f_eq,Option.bind_some]
  by_cases q:done.length=g.length
  ·
   refine⟨[done],by rw[if_pos (by omega)],fun r hr => ?_,?_⟩
   ·
    rw[List.mem_singleton.1 hr];exact⟨q,h1⟩
   ·
    rw[q,Nat.sub_self];simp
  rw[if_neg (by omega)]
  have hP:8 ^ (g.length - done.length)=8*8 ^ (g.length - (done.length+1)):=by rw[show g.length - done.length=(g.length - (done.length+1))+1 by omega,Nat.pow_succ,Nat.mul_comm]
  have hP2:8 ^ (g.length - (done.length+1))≤8 ^ 7:=Nat.pow_le_pow_right (by omega) (by omega)
  obtain⟨P,hPd⟩:∃P,P=8 ^ (g.length - (done.length+1)):=⟨_,rfl⟩
  rw[←hPd]at hP hP2
  have loop:∀(k y:Nat) (r2:List (List Int)),y+k=h.length→(∀r∈r2,r.length=g.length∧AllIn h.length r)→r2.length≤y*P →
    ∃A,Zg.l0 n done false (done.length:Int) (y:Int) g h r2=some A∧(∀r∈A,r.length=g.length∧AllIn h.length r)∧A.length≤h.length*P:=by
   intro k
   induction k with
   | zero =>
    intro y r2 hk hr hl
    obtain rfl:y=h.length:=by omega
    exact⟨r2,by rw[Zg.l0_eq,Zp.f_eq,Option.bind_some,if_neg (by omega)],hr,hl⟩
   | succ k ihk =>
    intro y r2 hk hr hl
    have l1:∀z:Int,([z]:List Int).length=1:=fun _=>rfl
    have hx:AllIn h.length (done++[(y:Int)]):=ZbU fun z hz=>by
     rcases List.mem_append.1 hz with hz|hz
     ·
      exact h1.mem hz
     ·
      rw[List.mem_singleton.1 hz];omega
    have hxl:(done++[(y:Int)]).length=done.length+1:=by rw[List.length_append,l1]
    obtain⟨b,e⟩:=ZjW hg hh hx hxl (by omega) n done (y:Int) r2 (done.length+1) 0 true (by omega)
    have yP:y*P≤8*P:=Nat.mul_le_mul_right _ (by omega)
    have st:(y+1)*P=y*P+P:=Nat.succ_mul y P
    rw[Zg.l0_eq,Zp.f_eq,Option.bind_some,if_pos (by omega),Own_ done (by omega),Option.bind_some,l1,if_pos (by omega)]
    have e:Zg.l1 n done false (done.length:Int) (y:Int) true 0 g h r2 (done++[(y:Int)])=_:=e
    rw[e,wn (j:=y) (by omega)]
    cases b with
    | false =>
     obtain⟨A,a1,a2,a3⟩:=ihk (y+1) r2 (by omega) hr (by omega)
     exact⟨A,by rw[if_neg (by decide)];exact a1,a2,a3⟩
    | true =>
     obtain⟨B,b1,b2,b3⟩:=ih (done++[(y:Int)]) hx (by omega) (by omega)
     rw[hxl,←hPd]at b3
     obtain⟨A,a1,a2,a3⟩:=ihk (y+1) (r2++B) (by omega) (fun r hr' => (List.mem_append.1 hr').elim (hr r) (b2 r)) (by rw[List.length_append];omega)
     refine⟨A,?_,a2,a3⟩
     rw[if_pos rfl,b1,Option.bind_some,if_pos (by omega)]
     exact a1
  obtain⟨A,a1,a2,a3⟩:=loop h.length 0 [] (by omega) (by simp) (by simp)
  exact⟨A,a1,a2,by rw[hP];exact Nat.le_trans a3 (Nat.mul_le_mul_right _ k8)⟩
theorem Zk8 {c:List Int} {g k:List (List Int)} (hg:Grp g) (hk:Grp k) {m:Int} {u:List Int} {d:Int} {v:List Int} (hc:Co g m d v) {f:List Int} (f1:1≤f.length) (f8:f.length≤8) (i hh:Int) (hs:Src c i) :
  ∃k' g' f' d' v', ZG.l0 (k.length:Int) 0 0 c i hh g m u d v k f=some (k', g', m,u,f', d', v')∧SmT k' ∧ SmT g' ∧ f'.length≤9∧v'.length≤20001:=by
 have tail:∀(f:List Int) (i hh:Int),f.length≤9→Src c i→∃k' g' f' d' v', ((ZV.f c i hh k).bind fun t77=>(ZV.f t77.2.1 t77.2.2.1 t77.2.2.2 g).bind fun t80=>(ZM.f t80.2.1 t80.2.2.1 t80.2.2.2 m u d v).bind fun t86=>some (t77.1,t80.1,m,u,f,t86.1,t86.2.1))=some (k', g', m,u,f', d', v')∧SmT k' ∧ SmT g' ∧ f'.length≤9∧v'.length≤20001:=fun f i hh hf hs=>by
  obtain⟨k', j2,h2,e2,s2,hk'⟩:=Bad_ hs hh hk
  obtain⟨g', j3,h3,e3,s3,hg'⟩:=Bad_ s2 h2 hg
  obtain⟨d', v', j4,h4,e4,s4,hv'⟩:=Zgp s3 h3 m u d (v:=v) (by have:=ZdH hg hc;omega)
  refine⟨k', g', f,d', v', ?_,hk', hg', hf,hv'⟩
  rw[e2]
  dsimp only[Option.bind_some]
  rw[e3]
  dsimp only[Option.bind_some]
  rw[e4]
  rfl
 have l1:([0]:List Int).length=1:=rfl
 obtain⟨x,j0,h0,e0,s0,_⟩:=Next_ hs hh 20 (by omega)
 rw[ZG.l0_eq,Zp.f_eq,Option.bind_some,if_neg (by omega),e0]
 dsimp only[Option.bind_some]
 by_cases q0:x=0
 ·
  rw[if_pos q0,l1,if_pos (by omega)]
  exact tail (f++[0]) j0 h0 (by rw[List.length_append,l1];omega) s0
 rw[if_neg q0]
 by_cases q1:x=1
 ·
  obtain⟨z,j1,h1,e1,s1,_⟩:=Pick_ s0 h0 [-1,(g.length:Int)] (by simp) (by simp)
  rw[if_pos q1,Zp.f_eq,Option.bind_some,e1]
  dsimp only[Option.bind_some]
  rw[if_pos (by omega),if_pos (by omega)]
  exact tail (f.set (0:Int).toNat z) j1 h1 (by rw[List.length_set];omega) s1
 ·
  rw[if_neg q1]
  exact tail f j0 h0 (by omega) s0
def PP (o:Option (List (List Int)×List (List Int)×Int×List Int×List Int×Int×List Int)):Prop:=∃k g m u f d v,o=some (k,g,m,u,f,d,v)∧SmT k∧SmT g∧u.length≤9∧f.length≤9∧v.length≤20001
theorem ZiC {c:List Int} (h:CodeL c):PP (ZG.f c):=by
 obtain⟨h0,e0,s0⟩:=From_ h.ent h.len
 obtain⟨g,m,u,d,v,j,h1,e1,s1,hg,hm,hc⟩:=ZfU s0 h0
 obtain⟨u1,u8⟩:=ZgH hg hm
 obtain⟨k,j2,h2,e2,s2,hk⟩:=Zkx s1 h1
 have n8:=hg.n8;have k8:=hk.n8;have k1:=hk.n1;have n1:=hg.n1
 obtain⟨A,a1,a2,a3⟩:=ZiF hk hg fuel [] (ZbU fun x hx=>by cases hx) (by simp) (by rw[Zf2];simp;omega)
 have aP:8 ^ (k.length - ([]:List Int).length)≤8 ^ 8:=Nat.pow_le_pow_right (by omega) (by simp;omega)
 have fin:∀(f:List Int) (i hh:Int),1≤f.length→f.length≤8→Src c i→PP (ZG.l0 (k.length:Int) 0 0 c i hh g m u d v k f):=fun f i hh f1 f8 hs=>by
  obtain⟨k', g', f', d', v', e,b1,b2,b3,b4⟩:=Zk8 (u:=u) hg hk hc f1 f8 i hh hs
  exact⟨k', g', m,u,f', d', v', e,b1,b2,by omega,b3,b4⟩
 have l1:∀z:Int,([z]:List Int).length=1:=fun _=>rfl
 have main:∀(t x:Nat) (f:List Int) (i hh:Int),x+t=k.length→f.length=x→Src c i→PP (ZG.l0 (x:Int) 0 0 c i hh g m u d v k f):=by
  intro t
  induction t with
  | zero =>
   intro x f i hh hx hf hs
   obtain rfl:x=k.length:=by omega
   exact fin f i hh (by omega) (by omega) hs
  | succ t ih =>
   intro x f i hh hx hf hs
   obtain⟨z,j5,h5,e5,s5,_⟩:=Next_ hs hh (g.length:Int) (by omega)
   have:=ih (x+1) (f++[z]) j5 h5 (by omega) (by rw[List.length_append,l1];omega) s5
   rw[ZG.l0_eq,Zp.f_eq,Option.bind_some,if_pos (by omega),Zp.f_eq,Option.bind_some,e5]
   dsimp only[Option.bind_some]
   rw[l1,if_pos (by omega),wn (j:=x) (by omega)]
   exact this
 obtain⟨x,j3,h3,e3,s3,_⟩:=Next_ s2 h2 8 (by omega)
 rw[ZG.f_eq,e0]
 dsimp only[Option.bind_some]
 rw[e1]
 dsimp only[Option.bind_some]
 rw[e2]
 dsimp only[Option.bind_some]
 rw[a1]
 dsimp only[Option.bind_some]
 rw[e3]
 dsimp only[Option.bind_some]
 by_cases q:x > 0
 rotate_left
 ·
  rw[if_neg q]
  exact main k.length 0 [] j3 h3 (by omega) rfl s3
 rw[if_pos q]
 by_cases q2:(A.length:Int) > 0
 rotate_left
 ·
  rw[if_neg q2]
  exact main k.length 0 [] j3 h3 (by omega) rfl s3
 rw[if_pos q2]
 obtain⟨y,j4,h4,e4,s4,y0,y1,_⟩:=Next_ s3 h3 (A.length:Int) (by omega)
 have y1:=y1 (by omega)
 have hy:=a2 _ (ZhB y0 y1)
 have hf:=fin (row A y) j4 h4 (by omega) (by omega) s4
 rw[ZG.l0_eq,Zp.f_eq,Option.bind_some,if_neg (by omega)]at hf
 rw[e4]
 dsimp only[Option.bind_some]
 rw[if_pos y0,if_pos y1,Own_ _ (by omega),Option.bind_some]
 exact hf
end Go.Proofs.YtoljodiflhbohaaGreatDoor.V
set_option maxHeartbeats 2000000
namespace Go.Proofs.YtoljodiflhbohaaGreatDoor.V
open Go.RowKit Go.Proofs.YtoljodiflhbohaaGreatDoor.D Go.Proofs.YtoljodiflhbohaaGreatDoor.P
def Tx (n:Int):ByteArray:=if n < 10 then⟨#[UInt8.ofNat (48+n.toNat)]⟩else⟨#[UInt8.ofNat (48+(n / 10).toNat),UInt8.ofNat (48+(n%10).toNat)]⟩
theorem bs1 (a:UInt8):(⟨#[a]⟩:ByteArray).size=1:=rfl
theorem bs2 (a b:UInt8):(⟨#[a,b]⟩:ByteArray).size=2:=rfl
theorem ZfT (n:Int):1≤(Tx n).size∧(Tx n).size≤2:=by
 unfold Tx
 split
 ·
  rw[bs1];omega
 ·
  rw[bs2];omega
theorem digits10:∀n:Nat,n < 10→(⟨#[48,49,50,51,52,53,54,55,56,57,97,98,99,100,101,102,103,104,105,106,107,108,109,110,111,112,113,114,115,116,117,118,119,120,121,122]⟩:ByteArray).extract n (n+1)=⟨#[UInt8.ofNat (48+n)]⟩:=by decide
theorem ZlA {n:Int} (h0:0≤n) {b:Nat} (h1:n < b):∃k:Nat,k < b∧n=(k:Int):=⟨n.toNat,by omega,by omega⟩
theorem ZlF {n:Int} (h0:0≤n) (h1:n < 20):istrconv_small.f n=some (Tx n):=by
 rw[istrconv_small.f_eq]
 by_cases h:n < 10
 ·
  obtain⟨k,hk,rfl⟩:=ZlA h0 (b:=10) h
  have e:=digits10 k hk
  have hs:(⟨#[48,49,50,51,52,53,54,55,56,57,97,98,99,100,101,102,103,104,105,106,107,108,109,110,111,112,113,114,115,116,117,118,119,120,121,122]⟩:ByteArray).size=36:=rfl
  rw[if_pos h,if_pos h0,wn (j:=k) (by omega),if_pos (by omega),hs,if_pos (by omega),Int.toNat_natCast,Int.toNat_natCast,e]
  unfold Tx
  rw[if_pos h,Int.toNat_natCast]
 ·
  have hs:∀l:List UInt8,(⟨List.toArray l⟩:ByteArray).size=l.length:=fun l=>rfl
  rw[if_neg h]
  rw[w64 (x:=n*2) (by omega) (by omega),w64 (x:=n*2+2) (by omega) (by omega),if_pos (by omega),if_pos (by omega),hs,if_pos (by simp only[List.append_eq,List.length_append,List.length_cons,List.length_nil];omega)]
  congr 1
  unfold Tx
  rw[if_neg h]
  obtain⟨k,hk,rfl⟩:∃k:Nat,k < 10∧n=10+(k:Int):=⟨(n - 10).toNat,by omega,by omega⟩
  have e1:((10+(k:Int)) / 10).toNat=1:=by omega
  have e2:((10+(k:Int))%10).toNat=k:=by omega
  have e3:((10+(k:Int))*2).toNat=20+2*k:=by omega
  have e4:((10+(k:Int))*2+2).toNat=20+2*k+2:=by omega
  rw[e1,e2,e3,e4]
  clear e1 e2 e3 e4 h h0 h1
  revert k
  decide
theorem decimal {n:Int} (h0:0≤n) (h1:n < 20):Zba.f n=some (Tx n):=by
 have hs:=ZlF h0 h1
 have e:istrconv_FormatInt.f n 10=some (Tx n):=by rw[istrconv_FormatInt.f_eq,if_pos rfl,if_pos h0,if_pos (by omega),hs];rfl
 have e2:ZaB.f n 10=some (Tx n):=by rw[ZaB.f_eq,e];rfl
 rw[Zba.f_eq,e2];rfl
theorem wr8 {x:Int} (h0:0≤x) (h1:x < 256):wr .u8 x=x:=by
 show D.hid (IntKind.u8.wrap x)=x
 rw[D.hid_eq]
 have e:(2 ^ IntKind.u8.bits:Int)=256:=by decide
 have s:IntKind.u8.signed=false:=rfl
 simp only[IntKind.wrap,e,s,Bool.false_and,Bool.false_eq_true,if_false]
 omega
theorem bytes1 {n:Int} (h0:0≤n) (h1:n < 10):ZdO [wr .u8 (wrapI (48+n))]=⟨#[UInt8.ofNat (48+n.toNat)]⟩:=by
 rw[Zfu,w64 (by omega) (by omega),wr8 (by omega) (by omega)]
 have e:(48+n).toNat=48+n.toNat:=by omega
 simp only[List.foldl_cons,List.foldl_nil,e]
 rfl
theorem Zfp {a b:ByteArray} (h:a.size+b.size≤9223372036854775807):szs a b≤9223372036854775807:=by
 unfold szs
 rw[hid_eq]
 omega
theorem Dec_ {n:Int} (h0:0≤n) (h1:n < 100):Zau.f fuel n=some (Tx n):=by
 rw[Zf2]
 have one:∀(j:Nat) (k:Int),0≤k→k < 10→Zau.f (j+1) k=some ⟨#[UInt8.ofNat (48+k.toNat)]⟩:=fun j k k0 k1=>by
  rw[Zau.f_eq,if_neg (by omega),if_pos k1,if_pos (by simp),bytes1 k0 k1]
 by_cases h:n < 10
 ·
  rw[one 63 n h0 h]
  unfold Tx
  rw[if_pos h]
 ·
  have e1:=one 62 (n / 10) (by omega) (by omega)
  have e2:(n:Int).tdiv 10=n / 10:=Zgo h0
  have e3:(n:Int).tmod 10=n%10:=Zcl h0
  rw[Zau.f_eq,if_neg (by omega),if_neg h,e2,e3,w64 (x:=n / 10) (by omega) (by omega),e1,Option.bind_some,bytes1 (n:=n%10) (by omega) (by omega),if_pos (by simp),if_pos (Zfp (by rw[bs1,bs1];omega))]
  unfold Tx
  rw[if_neg h]
  congr 1
theorem Ze5 (ys:List ByteArray) (y sep:ByteArray):joined (ys++[y]) sep=if ys=[]then y else joined ys sep++sep++y:=by
 cases ys with
 | nil =>
  rw[if_pos rfl]
  unfold joined
  simp[Lib.join_one]
 | cons x r =>
  rw[if_neg (by simp)]
  unfold joined
  apply ByteArray.ext
  rw[ByteArray.data_append,ByteArray.data_append]
  apply Array.toList_inj.1
  simp only[List.cons_append,List.map_cons,List.map_append,List.map_nil,Lib.join_cons,Lib.joinTail,List.flatten_append,List.flatten_cons,List.flatten_nil,List.append_nil,Array.toList_append,List.append_assoc]
theorem Ze4:∀(n:Nat) (ys:List ByteArray),ys.length=n→(∀y∈ys,y.size≤2)→(joined ys ⟨#[44]⟩).size≤3*n
 | 0,ys,hl,_=>by
  rw[List.length_eq_zero_iff.1 hl]
  exact Nat.le_refl _
 | n+1,ys,hl,h=>by
  obtain⟨zs,z,rfl⟩:∃zs z,ys=zs++[z]:=⟨ys.dropLast,ys.getLast (by intro e;rw[e]at hl;cases hl),(List.dropLast_concat_getLast _).symm⟩
  have ih:=Ze4 n zs (by simpa using hl) fun y hy=>h y (List.mem_append_left _ hy)
  have hz:=h z (by simp)
  rw[Ze5]
  split
  ·
   omega
  ·
   rw[ByteArray.size_append,ByteArray.size_append,bs1]
   omega
theorem Zhg (ys:List ByteArray) (sep:ByteArray):(Lib.join (ys.map (·.data.toList)) sep.data.toList).length=(joined ys sep).size:=rfl
def Nx (v:List Int):ByteArray:=joined (v.map Tx) ⟨#[44]⟩
theorem Zg7 (v:List Int):(Nx v).size≤3*v.length:=Ze4 v.length (v.map Tx) (by simp) fun y hy=>by
 obtain⟨x,_,rfl⟩:=List.mem_map.1 hy
 exact(ZfT x).2
theorem ZkQ {v:List Int} {i:Nat} (h:i < v.length):Nx (v.take (i+1))=if i=0 then Tx (rd v (i:Int))else Nx (v.take i)++⟨#[44]⟩++Tx (rd v (i:Int)):=by
 unfold Nx
 rw[ZcR h,List.map_append,List.map_singleton,Ze5]
 by_cases h0:i=0
 ·
  subst h0
  rw[if_pos (by simp),if_pos rfl]
 ·
  rw[if_neg (by simp[h0];intro e;rw[e]at h;cases h),if_neg h0]
theorem Zhk {v:List Int} {m:Int} (hv:AllIn m v) (hm:m≤20) (hl:v.length≤100000):ZZ.f v=some (Nx v):=by
 rw[ZZ.f_eq]
 have:=up v.length (fun i=>ZZ.l0 v (v.length:Int) (i:Int) ((v.take i).map Tx)) (fun i hi=>by
  obtain⟨a0,a1⟩:=hv (i:Int) (by omega) (by omega)
  have hd:=decimal (n:=rd v (i:Int)) a0 (by omega)
  have l1:((v.take i).map Tx).length=i:=by rw[List.length_map,List.length_take];omega
  have l3:∀y:ByteArray,([y]:List ByteArray).length=1:=fun _=>rfl
  rw[ZcR hi,List.map_append,List.map_singleton,ZZ.l0_eq,hd,Option.bind_some,l1,l3,wn (j:=i) (by omega)]
  ((with_reducible repeat (first|refine Zj (by first|assumption|omega|rfl|exact B_pos (by omega)) ?_|refine Zi (by first|assumption|omega|decide|exact B_not (by omega)) ?_|refine Ze (by first|assumption) ?_|dsimp only));first|done|(with_reducible rfl)|simp (disch:=omega) only[w64]|(show False;done)))
 simp only[Int.natCast_zero,List.take_zero,List.map_nil,List.take_length]at this
 have hs:=Zg7 v
 have hj:joinF (v.map Tx) ⟨#[44]⟩=some (Nx v):=by
  unfold joinF
  rw[if_pos ⟨by rw[List.length_map];omega,by rw[Zhg];show(Nx v).size≤_;omega⟩]
  rfl
 rw[this,ZZ.l0_eq,if_neg (by omega),ZbI.f,hj]
 rfl
def Cx (d:Int) (v:List Int):ByteArray:=Tx d++⟨#[58]⟩++Nx v
theorem Zha {d m:Int} {v:List Int} (d0:0≤d) (d1:d≤3) (hv:AllIn m v) (hm:m≤20) (hl:v.length≤100000):ZaJ.f d v=some (Cx d v):=by
 have h1:=decimal (n:=d) d0 (by omega)
 have h2:=Zhk hv hm hl
 have s1:=ZfT d
 have s2:=Zg7 v
 rw[ZaJ.f_eq,h1,Option.bind_some,if_pos (Zfp (by rw[bs1];omega)),h2,Option.bind_some,if_pos (Zfp (by rw[ByteArray.size_append,bs1];omega))]
 rfl
theorem Text_ {d m:Int} {v:List Int} (d0:0≤d) (d1:d≤3) (hv:AllIn m v) (hm:m≤20) (hl:v.length≤100000):ZaI.f d v=some (Cx d v):=by
 have h1:=Dec_ (n:=d) d0 (by omega)
 have s1:=ZfT d
 rw[ZaI.f_eq,h1,Option.bind_some,if_pos (Zfp (by rw[bs1];omega))]
 have:=up v.length (fun i=>ZaI.l0 (Tx d++⟨#[58]⟩++Nx (v.take i)) (i:Int) d v) (fun i hi=>by
  obtain⟨a0,a1⟩:=hv (i:Int) (by omega) (by omega)
  have hd:=Dec_ (n:=rd v (i:Int)) a0 (by omega)
  have s2:=Zg7 (v.take i)
  rw[List.length_take]at s2
  have s3:=ZfT (rd v (i:Int))
  have s4:(Tx d++(⟨#[58]⟩:ByteArray)++Nx (v.take i)).size=(Tx d).size+1+(Nx (v.take i)).size:=by rw[ByteArray.size_append,ByteArray.size_append,bs1]
  rw[ZkQ hi,ZaI.l0_eq,hd,Option.bind_some,Option.bind_some,if_pos (by omega),wn (j:=i) (by omega)]
  by_cases h0:i=0
  ·
   subst h0
   have e:Nx (v.take 0)=ByteArray.empty:=rfl
   rw[if_neg (by simp),if_pos rfl,if_pos (by omega),if_pos (by omega),if_pos (Zfp (by omega)),e,ByteArray.append_empty]
  ·
   rw[if_pos (by omega),if_neg h0,if_pos (Zfp (by rw[s4,bs1];omega)),if_pos (by omega),if_pos (by omega),if_pos (Zfp (by rw[ByteArray.size_append,s4,bs1];omega))]
   simp only[ByteArray.append_assoc])
 simp only[Int.natCast_zero,List.take_zero,List.take_length]at this
 have e:Nx []=ByteArray.empty:=rfl
 rw[e,ByteArray.append_empty]at this
 rw[this,ZaI.l0_eq,if_neg (by omega)]
 rfl
end Go.Proofs.YtoljodiflhbohaaGreatDoor.V
namespace Go.Proofs.YtoljodiflhbohaaGreatDoor.V
open Go.RowKit Go.Proofs.YtoljodiflhbohaaGreatDoor.D Go.Proofs.YtoljodiflhbohaaGreatDoor.P
theorem ZeG (g:List (List Int)) (m:Int) (u:List Int) (d:Int) (v:List Int) (hl:g.length≤maxLen) (hr:∀r∈g,r.length≤maxLen) (hu:u.length≤maxLen) (hv:v.length≤maxLen) :
  ∃(t:ByteArray) (c:Int),ZaG.f g m u d v=some (t,c)∧ZaF.f g m u d v=some (t,c):=by
 rcases co_codes g hl hr m u hu d v hv with ⟨hg,hm,hc,cI,cS⟩|⟨_,cI,cS⟩
 rotate_left
 ·
  refine⟨⟨#[]⟩,1,?_,?_⟩
  ·
   rw[ZaG.f_eq]
   ((with_reducible repeat (first|refine Zj (by first|assumption|omega|rfl|exact B_pos (by omega)) ?_|refine Zi (by first|assumption|omega|decide|exact B_not (by omega)) ?_|refine Ze (by first|assumption) ?_|dsimp only));first|done|(with_reducible rfl)|simp (disch:=omega) only[w64]|(show False;done))
  ·
   rw[ZaF.f_eq]
   ((with_reducible repeat (first|refine Zj (by first|assumption|omega|rfl|exact B_pos (by omega)) ?_|refine Zi (by first|assumption|omega|decide|exact B_not (by omega)) ?_|refine Ze (by first|assumption) ?_|dsimp only));first|done|(with_reducible rfl)|simp (disch:=omega) only[w64]|(show False;done))
 have m2:=hm.m2;have m12:=hm.m12
 obtain⟨d0,d1⟩:=hc.1
 have hb:=ZbA hg (d:=d) (by omega)
 have hcl:=hc.2.1
 have hi:=Zha (m:=m) d0 d1 hc.2.2 (by omega) (by omega)
 have hs:=Text_ (m:=m) d0 d1 hc.2.2 (by omega) (by omega)
 refine⟨Cx d v,0,?_,?_⟩
 ·
  rw[ZaG.f_eq]
  ((with_reducible repeat (first|refine Zj (by first|assumption|omega|rfl|exact B_pos (by omega)) ?_|refine Zi (by first|assumption|omega|decide|exact B_not (by omega)) ?_|refine Ze (by first|assumption) ?_|dsimp only));first|done|(with_reducible rfl)|simp (disch:=omega) only[w64]|(show False;done))
 ·
  rw[ZaF.f_eq]
  ((with_reducible repeat (first|refine Zj (by first|assumption|omega|rfl|exact B_pos (by omega)) ?_|refine Zi (by first|assumption|omega|decide|exact B_not (by omega)) ?_|refine Ze (by first|assumption) ?_|dsimp only));first|done|(with_reducible rfl)|simp (disch:=omega) only[w64]|(show False;done))
end Go.Proofs.YtoljodiflhbohaaGreatDoor.V
set_option maxHeartbeats 4000000
namespace Go.Proofs.YtoljodiflhbohaaGreatDoor.Pure
open Go.RowKit Go.Proofs.YtoljodiflhbohaaGreatDoor.D Go.Proofs.YtoljodiflhbohaaGreatDoor.P Go.Proofs.YtoljodiflhbohaaGreatDoor.V
theorem FnCupProducts_pure:∀(c:List Int),c.length≤maxLen→(∀x∈c,(Lit.int .u8 x).wf=true)→Zd.f c=some true:=by
 intro c hl hx
 rw[Zd.f_eq,ZbB.f_eq]
 dsimp only[Option.bind_some]
 by_cases hb:(c.length:Int) > 4096
 ·
  rw[decide_eq_true hb,if_pos rfl]
 rw[decide_eq_false hb,if_neg (by decide)]
 have h:CodeL c:=⟨fun x hx' => by have:=hx x hx';simp[Lit.wf,IntKind.bits,IntKind.signed,IntKind.min,IntKind.max]at this;omega,by omega⟩
 have fin:Zd.j1 c=some true:=by
  obtain⟨k,g,m,u,f,d,v,e1,k1,s1,su,sf,sv⟩:=ZiC h
  rw[Zkk k1.max.1 k1.max.2 s1.max.1 s1.max.2 (Zbu (by omega)) (Zbu (by omega)) (Zbu (by omega)) e1]
  obtain⟨g,m,u,d,v,x,e2,s2,su,sv⟩:=ZiA h
  rw[Zkf s2.max.1 s2.max.2 (Zbu (by omega)) (Zbu (by omega)) e2]
  obtain⟨g,m,u,d,e3,s3,su⟩:=ZiD h
  obtain⟨g', m', u', d', v', e4,s4,su', sv'⟩:=ZeD h
  obtain⟨a,R,e,z1,z2,z3⟩:=ZjJ g m u d s3.max.1 s3.max.2 (Zbu (by omega))
  obtain⟨t,e', t1,t2⟩:=ZeG g' m' u' d' v' s4.max.1 s4.max.2 (Zbu (by omega)) (Zbu (by omega))
  rw[Zd.j3_eq,e3]
  dsimp only[Option.bind_some]
  rw[z1]
  dsimp only[Option.bind_some]
  rw[z2]
  dsimp only[Option.bind_some]
  rw[e4]
  dsimp only[Option.bind_some]
  rw[t2]
  dsimp only[Option.bind_some]
  rw[t1]
  dsimp only[Option.bind_some]
  rw[if_pos rfl,likeC a R z3]
  dsimp only[Option.bind_some]
  rw[if_pos rfl,if_pos rfl]
  simp
 obtain⟨g,m,u,m', w,d1,v1,d2,v2,e1,s1,su,sw,sv1,sv2⟩:=Zgq h
 obtain⟨a,R,e,p1,p2,p3,p4⟩:=Zg2 g m u m' w d1 v1 d2 v2 s1.max.1 s1.max.2 (Zbu (by omega)) (Zbu (by omega)) (Zbu (by omega)) (Zbu (by omega))
 rw[e1]
 dsimp only[Option.bind_some]
 rw[p1]
 dsimp only[Option.bind_some]
 rw[p2]
 dsimp only[Option.bind_some]
 rw[if_pos rfl,likeC a R p3]
 dsimp only[Option.bind_some]
 rw[if_pos rfl]
 by_cases he:e=0
 rotate_left
 ·
  rw[if_neg he];exact fin
 rw[if_pos he]
 obtain⟨hg,rfl,hu,hw,P,Q,rfl,rfl,hpq,hf,hh,rfl,rfl⟩:=p4 he
 by_cases h3:((P+Q:Nat):Int) < 3
 rotate_left
 ·
  rw[if_neg h3];exact fin
 rw[if_pos h3,Zko hg hu hw hf hh (by omega)]
 exact fin
end Go.Proofs.YtoljodiflhbohaaGreatDoor.Pure
namespace Go.Proofs.YtoljodiflhbohaaGreatDoor.shut
theorem mayEnter:Tryz.pinned.checked.prog.mayEnter=true:=by kernel_rfl
theorem lifted:(Rows.fnCupProductsRow.lifted == Tryz.pinned.checked.prog.liftsFinal)=true:=by kernel_rfl
theorem make:(Tryz.pinned.checked.prog.make == some Rows.fnCupProductsRow.make)=true:=by kernel_rfl
end Go.Proofs.YtoljodiflhbohaaGreatDoor.shut
